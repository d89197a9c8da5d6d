import Derived.Test.YtcnjgcefgehblaaP0
import Derived.Test.YtcnjgcefgehblaaOpen
import Derived.KernelRfl
namespace Go.Proofs.Ytcnjgcefgehblaa.P
open Go.RowKit Go.Proofs.YtcnjgcefgehblaaW.PrintWords Go.Proofs.YtcnjgcefgehblaaW.PrintLast Go.Proofs.YtcnjgcefgehblaaW.PrintMore Go.Proofs.Ytcnjgcefgehblaa.Opn
set_option linter.unusedVariables false

theorem opens3 : Opens Try.prog 3 (Kd.int .i64) wfI := opens_int Try.underlying3
theorem opens22 : Opens Try.prog 22 (Kd.slice 3 (Kd.int .i64)) (wfL wfI) := opens_slice Try.underlying22 (by kernel_rfl) opens3

end Go.Proofs.Ytcnjgcefgehblaa.P
