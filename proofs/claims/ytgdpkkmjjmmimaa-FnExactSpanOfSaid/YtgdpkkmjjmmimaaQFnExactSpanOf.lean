import Derived.Test.YtgdpkkmjjmmimaaPf4
import Derived.Test.YtgdpkkmjjmmimaaTys
namespace Go.Proofs.Ytgdpkkmjjmmimaa.P
open Go.RowKit Go.Proofs.YtgdpkkmjjmmimaaW.PrintWords Go.Proofs.YtgdpkkmjjmmimaaW.PrintLast Go.Proofs.YtgdpkkmjjmmimaaW.PrintMore Go.Proofs.Ytgdpkkmjjmmimaa.Opn
set_option linter.unusedVariables false

def laws_FnExactSpanOf.Pure : Prop := ∀ (l0 : List Int) (a1 : Int) (l2 : List Int), (wfL wfI) l0 → wfI a1 → (wfL wfI) l2 → ∃ k, laws_FnExactSpanOf.f k l0 a1 l2 = some true

end Go.Proofs.Ytgdpkkmjjmmimaa.P
