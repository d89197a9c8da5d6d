import Derived.Test.YtcnjgcefgehblaaPf3
import Derived.Test.YtcnjgcefgehblaaTys
namespace Go.Proofs.Ytcnjgcefgehblaa.P
open Go.RowKit Go.Proofs.YtcnjgcefgehblaaW.PrintWords Go.Proofs.YtcnjgcefgehblaaW.PrintLast Go.Proofs.YtcnjgcefgehblaaW.PrintMore Go.Proofs.Ytcnjgcefgehblaa.Opn
set_option linter.unusedVariables false

def laws_FnExactLateBy.Pure : Prop := ∀ (l0 : List Int), (wfL wfI) l0 → ∃ k, laws_FnExactLateBy.f k l0 = some true

end Go.Proofs.Ytcnjgcefgehblaa.P
