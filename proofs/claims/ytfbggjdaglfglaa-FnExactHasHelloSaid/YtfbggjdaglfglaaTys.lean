import Derived.Test.YtfbggjdaglfglaaP0
import Derived.Test.YtfbggjdaglfglaaOpen
import Derived.KernelRfl
namespace Go.Proofs.Ytfbggjdaglfglaa.P
open Go.RowKit Go.Proofs.YtfbggjdaglfglaaW.PrintWords Go.Proofs.YtfbggjdaglfglaaW.PrintLast Go.Proofs.YtfbggjdaglfglaaW.PrintMore Go.Proofs.Ytfbggjdaglfglaa.Opn
set_option linter.unusedVariables false

theorem opens3 : Opens Try.prog 3 (Kd.int .i64) wfI := opens_int Try.underlying3
def wf24 (x : S24) : Prop := wfI x.f0 ∧ wfI x.f1 ∧ wfI x.f2
theorem opens24 : Opens Try.prog 24 k24 wf24 := by
  have h := opens_struct (f := (fun x : S24 => (x.f0, x.f1, x.f2))) Try.underlying24 (by kernel_rfl) (fun y => ⟨y.1, y.2.1, y.2.2⟩) (fun _ => rfl) (opens_cons rfl (by kernel_rfl) opens3 (opens_cons rfl (by kernel_rfl) opens3 (opens_last rfl (by kernel_rfl) opens3)))
  exact ⟨h.out⟩
theorem opens22 : Opens Try.prog 22 (Kd.slice 24 k24) (wfL wf24) := opens_slice Try.underlying22 (by kernel_rfl) opens24

end Go.Proofs.Ytfbggjdaglfglaa.P
