import Derived.Test.YtadfjldepombnaaPf5
import Derived.Test.YtadfjldepombnaaTys
namespace Go.Proofs.Ytadfjldepombnaa.P
open Go.RowKit Go.Proofs.YtadfjldepombnaaW.PrintWords Go.Proofs.YtadfjldepombnaaW.PrintLast Go.Proofs.YtadfjldepombnaaW.PrintMore Go.Proofs.Ytadfjldepombnaa.Opn
set_option linter.unusedVariables false

def laws_FnExactIsFairer.Pure : Prop := ∀ (l0_0 : List Int) (a0_1 : Int) (l1_0 : List Int) (a1_1 : Int), (wfL wfI) l0_0 → wfI a0_1 → (wfL wfI) l1_0 → wfI a1_1 → ∃ k, laws_FnExactIsFairer.f k l0_0 a0_1 l1_0 a1_1 = some true

end Go.Proofs.Ytadfjldepombnaa.P
