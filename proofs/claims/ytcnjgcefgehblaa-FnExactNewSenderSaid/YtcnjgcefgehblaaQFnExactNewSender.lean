import Derived.Test.YtcnjgcefgehblaaPf4
import Derived.Test.YtcnjgcefgehblaaTys
namespace Go.Proofs.Ytcnjgcefgehblaa.P
open Go.RowKit Go.Proofs.YtcnjgcefgehblaaW.PrintWords Go.Proofs.YtcnjgcefgehblaaW.PrintLast Go.Proofs.YtcnjgcefgehblaaW.PrintMore Go.Proofs.Ytcnjgcefgehblaa.Opn
set_option linter.unusedVariables false

def laws_FnExactNewSender.Pure : Prop := ∀ (a0 : Int), wfI a0 → ∃ k, laws_FnExactNewSender.f k a0 = some true

end Go.Proofs.Ytcnjgcefgehblaa.P
