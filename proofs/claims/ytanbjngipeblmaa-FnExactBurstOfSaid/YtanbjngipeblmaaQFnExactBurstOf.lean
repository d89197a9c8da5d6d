import Derived.Test.YtanbjngipeblmaaPf3
import Derived.Test.YtanbjngipeblmaaTys
namespace Go.Proofs.Ytanbjngipeblmaa.P
open Go.RowKit Go.Proofs.YtanbjngipeblmaaW.PrintWords Go.Proofs.YtanbjngipeblmaaW.PrintLast Go.Proofs.YtanbjngipeblmaaW.PrintMore Go.Proofs.Ytanbjngipeblmaa.Opn
set_option linter.unusedVariables false

def laws_FnExactBurstOf.Pure : Prop := ∀ (a0 : ByteArray) (a1 : Int) (a2 : Int), wfS a0 → wfI a1 → wfI a2 → laws_FnExactBurstOf.f a0 a1 a2 = some true

end Go.Proofs.Ytanbjngipeblmaa.P
