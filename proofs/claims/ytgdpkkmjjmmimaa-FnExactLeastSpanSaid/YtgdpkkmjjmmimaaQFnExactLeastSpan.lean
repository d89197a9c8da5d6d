import Derived.Test.YtgdpkkmjjmmimaaPf5
import Derived.Test.YtgdpkkmjjmmimaaTys
namespace Go.Proofs.Ytgdpkkmjjmmimaa.P
open Go.RowKit Go.Proofs.YtgdpkkmjjmmimaaW.PrintWords Go.Proofs.YtgdpkkmjjmmimaaW.PrintLast Go.Proofs.YtgdpkkmjjmmimaaW.PrintMore Go.Proofs.Ytgdpkkmjjmmimaa.Opn
set_option linter.unusedVariables false

def laws_FnExactLeastSpan.Pure : Prop := ∀ (l0 : List Int) (a1 : Int), (wfL wfI) l0 → wfI a1 → ∃ k, laws_FnExactLeastSpan.f k l0 a1 = some true

end Go.Proofs.Ytgdpkkmjjmmimaa.P
