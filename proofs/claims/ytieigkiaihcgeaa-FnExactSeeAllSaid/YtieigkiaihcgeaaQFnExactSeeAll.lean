import Derived.Test.YtieigkiaihcgeaaPf4
import Derived.Test.YtieigkiaihcgeaaTys
namespace Go.Proofs.Ytieigkiaihcgeaa.P
open Go.RowKit Go.Proofs.YtieigkiaihcgeaaW.PrintWords Go.Proofs.YtieigkiaihcgeaaW.PrintLast Go.Proofs.YtieigkiaihcgeaaW.PrintMore Go.Proofs.Ytieigkiaihcgeaa.Opn
set_option linter.unusedVariables false

def laws_FnExactSeeAll.Pure : Prop := ∀ (a0 : Int) (l1 : List (S25)), wfI a0 → (wfL wf25) l1 → ∃ k, laws_FnExactSeeAll.f k a0 l1 = some true

end Go.Proofs.Ytieigkiaihcgeaa.P
