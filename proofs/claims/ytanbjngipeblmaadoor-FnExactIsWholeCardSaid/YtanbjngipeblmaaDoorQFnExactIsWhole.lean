import Derived.Test.YtanbjngipeblmaaDoorPf3
import Derived.Test.YtanbjngipeblmaaDoorTys
namespace Go.Proofs.YtanbjngipeblmaaDoor.P
open Go.RowKit Go.Proofs.YtanbjngipeblmaaDoorW.PrintWords Go.Proofs.YtanbjngipeblmaaDoorW.PrintLast Go.Proofs.YtanbjngipeblmaaDoorW.PrintMore Go.Proofs.YtanbjngipeblmaaDoor.Opn
set_option linter.unusedVariables false

def laws_FnExactIsWhole.Pure : Prop := ∀ (l0 : List ByteArray), (wfL wfS) l0 → ∃ k, laws_FnExactIsWhole.f k l0 = some true

end Go.Proofs.YtanbjngipeblmaaDoor.P
