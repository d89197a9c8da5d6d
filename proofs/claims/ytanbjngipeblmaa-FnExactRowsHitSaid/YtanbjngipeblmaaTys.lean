import Derived.Test.YtanbjngipeblmaaP0
import Derived.Test.YtanbjngipeblmaaOpen
import Derived.KernelRfl
namespace Go.Proofs.Ytanbjngipeblmaa.P
open Go.RowKit Go.Proofs.YtanbjngipeblmaaW.PrintWords Go.Proofs.YtanbjngipeblmaaW.PrintLast Go.Proofs.YtanbjngipeblmaaW.PrintMore Go.Proofs.Ytanbjngipeblmaa.Opn
set_option linter.unusedVariables false

theorem opens9 : Opens Try.prog 9 Kd.string wfS := opens_string Try.underlying9
theorem opens3 : Opens Try.prog 3 (Kd.int .i64) wfI := opens_int Try.underlying3
theorem opens27 : Opens Try.prog 27 (Kd.slice 9 Kd.string) (wfL wfS) := opens_slice Try.underlying27 (by kernel_rfl) opens9

end Go.Proofs.Ytanbjngipeblmaa.P
