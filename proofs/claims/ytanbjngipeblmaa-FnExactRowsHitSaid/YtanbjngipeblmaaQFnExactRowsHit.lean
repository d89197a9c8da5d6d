import Derived.Test.YtanbjngipeblmaaPf11
import Derived.Test.YtanbjngipeblmaaTys
namespace Go.Proofs.Ytanbjngipeblmaa.P
open Go.RowKit Go.Proofs.YtanbjngipeblmaaW.PrintWords Go.Proofs.YtanbjngipeblmaaW.PrintLast Go.Proofs.YtanbjngipeblmaaW.PrintMore Go.Proofs.Ytanbjngipeblmaa.Opn
set_option linter.unusedVariables false

def laws_FnExactRowsHit.Pure : Prop := ∀ (a0 : Int) (a1 : Int) (a2 : Int) (a3 : Int), wfI a0 → wfI a1 → wfI a2 → wfI a3 → ∃ k, laws_FnExactRowsHit.f k a0 a1 a2 a3 = some true

end Go.Proofs.Ytanbjngipeblmaa.P
