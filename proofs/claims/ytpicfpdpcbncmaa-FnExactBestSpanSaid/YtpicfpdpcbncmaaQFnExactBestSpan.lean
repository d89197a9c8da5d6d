import Derived.Test.YtpicfpdpcbncmaaPf3
import Derived.Test.YtpicfpdpcbncmaaTys
namespace Go.Proofs.Ytpicfpdpcbncmaa.P
open Go.RowKit Go.Proofs.YtpicfpdpcbncmaaW.PrintWords Go.Proofs.YtpicfpdpcbncmaaW.PrintLast Go.Proofs.YtpicfpdpcbncmaaW.PrintMore Go.Proofs.Ytpicfpdpcbncmaa.Opn
set_option linter.unusedVariables false

def laws_FnExactBestSpan.Pure : Prop := ∀ (l0 : List Int) (a1 : Int), (wfL wfI) l0 → wfI a1 → ∃ k, laws_FnExactBestSpan.f k l0 a1 = some true

end Go.Proofs.Ytpicfpdpcbncmaa.P
