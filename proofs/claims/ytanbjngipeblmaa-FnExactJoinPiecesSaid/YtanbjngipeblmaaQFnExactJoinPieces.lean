import Derived.Test.YtanbjngipeblmaaPf9
import Derived.Test.YtanbjngipeblmaaTys
namespace Go.Proofs.Ytanbjngipeblmaa.P
open Go.RowKit Go.Proofs.YtanbjngipeblmaaW.PrintWords Go.Proofs.YtanbjngipeblmaaW.PrintLast Go.Proofs.YtanbjngipeblmaaW.PrintMore Go.Proofs.Ytanbjngipeblmaa.Opn
set_option linter.unusedVariables false

def laws_FnExactJoinPieces.Pure : Prop := ∀ (l0 : List ByteArray) (a1 : Int), (wfL wfS) l0 → wfI a1 → ∃ k, laws_FnExactJoinPieces.f k l0 a1 = some true

end Go.Proofs.Ytanbjngipeblmaa.P
