import Derived.Test.YtfbiekobmgclhaaP0
import Derived.Test.YtfbiekobmgclhaaOpen
import Derived.KernelRfl
namespace Go.Proofs.Ytfbiekobmgclhaa.P
open Go.RowKit Go.Proofs.YtfbiekobmgclhaaW.PrintWords Go.Proofs.YtfbiekobmgclhaaW.PrintLast Go.Proofs.YtfbiekobmgclhaaW.PrintMore Go.Proofs.Ytfbiekobmgclhaa.Opn
set_option linter.unusedVariables false

theorem opens3 : Opens Try.prog 3 (Kd.int .i64) wfI := opens_int Try.underlying3
theorem opens22 : Opens Try.prog 22 (Kd.slice 3 (Kd.int .i64)) (wfL wfI) := opens_slice Try.underlying22 (by kernel_rfl) opens3
theorem opens23 : Opens Try.prog 23 (Kd.slice 22 (Kd.slice 3 (Kd.int .i64))) (wfL (wfL wfI)) := opens_slice Try.underlying23 (by kernel_rfl) opens22
def wf34 (x : S34) : Prop := (wfL wfI) x.f0 ∧ (wfL (wfL wfI)) x.f1 ∧ (wfL wfI) x.f2 ∧ (wfL wfI) x.f3 ∧ wfI x.f4
theorem opens34 : Opens Try.prog 34 k34 wf34 := by
  have h := opens_struct (f := (fun x : S34 => (x.f0, x.f1, x.f2, x.f3, x.f4))) Try.underlying34 (by kernel_rfl) (fun y => ⟨y.1, y.2.1, y.2.2.1, y.2.2.2.1, y.2.2.2.2⟩) (fun _ => rfl) (opens_cons rfl (by kernel_rfl) opens22 (opens_cons rfl (by kernel_rfl) opens23 (opens_cons rfl (by kernel_rfl) opens22 (opens_cons rfl (by kernel_rfl) opens22 (opens_last rfl (by kernel_rfl) opens3)))))
  exact ⟨h.out⟩

end Go.Proofs.Ytfbiekobmgclhaa.P
