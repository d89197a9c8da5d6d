import Derived.Test.YtgdpkkmjjmmimaaP0
import Derived.Test.YtgdpkkmjjmmimaaOpen
import Derived.KernelRfl
namespace Go.Proofs.Ytgdpkkmjjmmimaa.P
open Go.RowKit Go.Proofs.YtgdpkkmjjmmimaaW.PrintWords Go.Proofs.YtgdpkkmjjmmimaaW.PrintLast Go.Proofs.YtgdpkkmjjmmimaaW.PrintMore Go.Proofs.Ytgdpkkmjjmmimaa.Opn
set_option linter.unusedVariables false

theorem opens3 : Opens Try.prog 3 (Kd.int .i64) wfI := opens_int Try.underlying3
theorem opens22 : Opens Try.prog 22 (Kd.slice 3 (Kd.int .i64)) (wfL wfI) := opens_slice Try.underlying22 (by kernel_rfl) opens3
def wf58 (x : S58) : Prop := wfI x.f0 ∧ wfI x.f1
theorem opens58 : Opens Try.prog 58 k58 wf58 := by
  have h := opens_struct (f := (fun x : S58 => (x.f0, x.f1))) Try.underlying58 (by kernel_rfl) (fun y => ⟨y.1, y.2⟩) (fun _ => rfl) (opens_cons rfl (by kernel_rfl) opens3 (opens_last rfl (by kernel_rfl) opens3))
  exact ⟨h.out⟩
theorem opens30 : Opens Try.prog 30 (Kd.slice 58 k58) (wfL wf58) := opens_slice Try.underlying30 (by kernel_rfl) opens58

end Go.Proofs.Ytgdpkkmjjmmimaa.P
