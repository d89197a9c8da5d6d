import Derived.Test.YtieigkiaihcgeaaPf5
import Derived.Test.YtieigkiaihcgeaaTys
namespace Go.Proofs.Ytieigkiaihcgeaa.P
open Go.RowKit Go.Proofs.YtieigkiaihcgeaaW.PrintWords Go.Proofs.YtieigkiaihcgeaaW.PrintLast Go.Proofs.YtieigkiaihcgeaaW.PrintMore Go.Proofs.Ytieigkiaihcgeaa.Opn
set_option linter.unusedVariables false

def laws_FnExactRangeOf.Pure : Prop := ∀ (l0 : List (S25)), (wfL wf25) l0 → ∃ k, laws_FnExactRangeOf.f k l0 = some true

end Go.Proofs.Ytieigkiaihcgeaa.P
