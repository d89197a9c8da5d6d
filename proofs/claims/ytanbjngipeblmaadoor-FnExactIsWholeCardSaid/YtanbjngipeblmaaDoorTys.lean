import Derived.Test.YtanbjngipeblmaaDoorP0
import Derived.Test.YtanbjngipeblmaaDoorOpen
import Derived.KernelRfl
namespace Go.Proofs.YtanbjngipeblmaaDoor.P
open Go.RowKit Go.Proofs.YtanbjngipeblmaaDoorW.PrintWords Go.Proofs.YtanbjngipeblmaaDoorW.PrintLast Go.Proofs.YtanbjngipeblmaaDoorW.PrintMore Go.Proofs.YtanbjngipeblmaaDoor.Opn
set_option linter.unusedVariables false

theorem opens9 : Opens Tryd.prog 9 Kd.string wfS := opens_string Tryd.underlying9
theorem opens22 : Opens Tryd.prog 22 (Kd.slice 9 Kd.string) (wfL wfS) := opens_slice Tryd.underlying22 (by kernel_rfl) opens9

end Go.Proofs.YtanbjngipeblmaaDoor.P
