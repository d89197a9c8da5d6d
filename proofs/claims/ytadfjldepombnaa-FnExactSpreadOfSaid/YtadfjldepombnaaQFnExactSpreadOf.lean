import Derived.Test.YtadfjldepombnaaPf6
import Derived.Test.YtadfjldepombnaaTys
namespace Go.Proofs.Ytadfjldepombnaa.P
open Go.RowKit Go.Proofs.YtadfjldepombnaaW.PrintWords Go.Proofs.YtadfjldepombnaaW.PrintLast Go.Proofs.YtadfjldepombnaaW.PrintMore Go.Proofs.Ytadfjldepombnaa.Opn
set_option linter.unusedVariables false

def laws_FnExactSpreadOf.Pure : Prop := ∀ (l0_0 : List Int) (a0_1 : Int), (wfL wfI) l0_0 → wfI a0_1 → ∃ k, laws_FnExactSpreadOf.f k l0_0 a0_1 = some true

end Go.Proofs.Ytadfjldepombnaa.P
