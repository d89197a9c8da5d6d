import Derived.Test.YtanbjngipeblmaaPf8
import Derived.Test.YtanbjngipeblmaaTys
namespace Go.Proofs.Ytanbjngipeblmaa.P
open Go.RowKit Go.Proofs.YtanbjngipeblmaaW.PrintWords Go.Proofs.YtanbjngipeblmaaW.PrintLast Go.Proofs.YtanbjngipeblmaaW.PrintMore Go.Proofs.Ytanbjngipeblmaa.Opn
set_option linter.unusedVariables false

def laws_FnExactWithParity.Pure : Prop := ∀ (l0 : List ByteArray), (wfL wfS) l0 → ∃ k, laws_FnExactWithParity.f k l0 = some true

end Go.Proofs.Ytanbjngipeblmaa.P
