import Derived.Test.YtfbggjdaglfglaaPf3
import Derived.Test.YtfbggjdaglfglaaTys
namespace Go.Proofs.Ytfbggjdaglfglaa.P
open Go.RowKit Go.Proofs.YtfbggjdaglfglaaW.PrintWords Go.Proofs.YtfbggjdaglfglaaW.PrintLast Go.Proofs.YtfbggjdaglfglaaW.PrintMore Go.Proofs.Ytfbggjdaglfglaa.Opn
set_option linter.unusedVariables false

def laws_FnExactHasHello.Pure : Prop := ∀ (l0 : List (S24)) (a1_0 : Int) (a1_1 : Int) (a1_2 : Int), (wfL wf24) l0 → wfI a1_0 → wfI a1_1 → wfI a1_2 → ∃ k, laws_FnExactHasHello.f k l0 a1_0 a1_1 a1_2 = some true

end Go.Proofs.Ytfbggjdaglfglaa.P
