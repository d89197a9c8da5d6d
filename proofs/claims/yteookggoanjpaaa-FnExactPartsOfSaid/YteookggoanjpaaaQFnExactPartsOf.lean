import Derived.Test.YteookggoanjpaaaPf3
import Derived.Test.YteookggoanjpaaaTys
namespace Go.Proofs.Yteookggoanjpaaa.P
open Go.RowKit Go.Proofs.YteookggoanjpaaaW.PrintWords Go.Proofs.YteookggoanjpaaaW.PrintLast Go.Proofs.YteookggoanjpaaaW.PrintMore Go.Proofs.Yteookggoanjpaaa.Opn
set_option linter.unusedVariables false

def laws_FnExactPartsOf.Pure : Prop := ∀ (a0 : Int) (a1 : ByteArray), wfI a0 → wfS a1 → ∃ k, laws_FnExactPartsOf.f k a0 a1 = some true

end Go.Proofs.Yteookggoanjpaaa.P
