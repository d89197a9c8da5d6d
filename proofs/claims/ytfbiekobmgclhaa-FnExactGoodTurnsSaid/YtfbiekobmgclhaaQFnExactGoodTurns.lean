import Derived.Test.YtfbiekobmgclhaaPf4
import Derived.Test.YtfbiekobmgclhaaTys
namespace Go.Proofs.Ytfbiekobmgclhaa.P
open Go.RowKit Go.Proofs.YtfbiekobmgclhaaW.PrintWords Go.Proofs.YtfbiekobmgclhaaW.PrintLast Go.Proofs.YtfbiekobmgclhaaW.PrintMore Go.Proofs.Ytfbiekobmgclhaa.Opn
set_option linter.unusedVariables false

def laws_FnExactGoodTurns.Pure : Prop := ∀ (l0_0 : List Int) (l0_1 : List (List Int)) (l0_2 : List Int) (l0_3 : List Int) (a0_4 : Int), (wfL wfI) l0_0 → (wfL (wfL wfI)) l0_1 → (wfL wfI) l0_2 → (wfL wfI) l0_3 → wfI a0_4 → ∃ k, laws_FnExactGoodTurns.f k l0_0 l0_1 l0_2 l0_3 a0_4 = some true

end Go.Proofs.Ytfbiekobmgclhaa.P
