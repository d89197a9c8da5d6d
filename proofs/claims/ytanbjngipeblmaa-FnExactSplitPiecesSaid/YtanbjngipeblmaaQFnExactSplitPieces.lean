import Derived.Test.YtanbjngipeblmaaPf10
import Derived.Test.YtanbjngipeblmaaTys
namespace Go.Proofs.Ytanbjngipeblmaa.P
open Go.RowKit Go.Proofs.YtanbjngipeblmaaW.PrintWords Go.Proofs.YtanbjngipeblmaaW.PrintLast Go.Proofs.YtanbjngipeblmaaW.PrintMore Go.Proofs.Ytanbjngipeblmaa.Opn
set_option linter.unusedVariables false

def laws_FnExactSplitPieces.Pure : Prop := ∀ (a0 : ByteArray) (a1 : Int), wfS a0 → wfI a1 → ∃ k, laws_FnExactSplitPieces.f k a0 a1 = some true

end Go.Proofs.Ytanbjngipeblmaa.P
