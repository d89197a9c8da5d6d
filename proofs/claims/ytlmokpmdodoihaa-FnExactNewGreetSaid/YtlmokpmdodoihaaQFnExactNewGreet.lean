import Derived.Test.YtlmokpmdodoihaaPf3
import Derived.Test.YtlmokpmdodoihaaTys
namespace Go.Proofs.Ytlmokpmdodoihaa.P
open Go.RowKit Go.Proofs.YtlmokpmdodoihaaW.PrintWords Go.Proofs.YtlmokpmdodoihaaW.PrintLast Go.Proofs.YtlmokpmdodoihaaW.PrintMore Go.Proofs.Ytlmokpmdodoihaa.Opn
set_option linter.unusedVariables false

def laws_FnExactNewGreet.Pure : Prop := ∃ k, laws_FnExactNewGreet.f k  = some true

end Go.Proofs.Ytlmokpmdodoihaa.P
