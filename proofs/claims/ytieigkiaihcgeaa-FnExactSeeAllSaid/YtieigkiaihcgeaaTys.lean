import Derived.Test.YtieigkiaihcgeaaP0
import Derived.Test.YtieigkiaihcgeaaOpen
import Derived.KernelRfl
namespace Go.Proofs.Ytieigkiaihcgeaa.P
open Go.RowKit Go.Proofs.YtieigkiaihcgeaaW.PrintWords Go.Proofs.YtieigkiaihcgeaaW.PrintLast Go.Proofs.YtieigkiaihcgeaaW.PrintMore Go.Proofs.Ytieigkiaihcgeaa.Opn
set_option linter.unusedVariables false

theorem opens3 : Opens Try.prog 3 (Kd.int .i64) wfI := opens_int Try.underlying3
def wf23 (x : S23) : Prop := wfI x.f0 ∧ wfI x.f1 ∧ wfI x.f2 ∧ wfI x.f3
theorem opens23 : Opens Try.prog 23 k23 wf23 := by
  have h := opens_struct (f := (fun x : S23 => (x.f0, x.f1, x.f2, x.f3))) Try.underlying23 (by kernel_rfl) (fun y => ⟨y.1, y.2.1, y.2.2.1, y.2.2.2⟩) (fun _ => rfl) (opens_cons rfl (by kernel_rfl) opens3 (opens_cons rfl (by kernel_rfl) opens3 (opens_cons rfl (by kernel_rfl) opens3 (opens_last rfl (by kernel_rfl) opens3))))
  exact ⟨h.out⟩
theorem opens4 : Opens Try.prog 4 Kd.bool wfB := opens_bool Try.underlying4
def wf25 (x : S25) : Prop := wfI x.f0 ∧ wfB x.f1 ∧ wfB x.f2
theorem opens25 : Opens Try.prog 25 k25 wf25 := by
  have h := opens_struct (f := (fun x : S25 => (x.f0, x.f1, x.f2))) Try.underlying25 (by kernel_rfl) (fun y => ⟨y.1, y.2.1, y.2.2⟩) (fun _ => rfl) (opens_cons rfl (by kernel_rfl) opens3 (opens_cons rfl (by kernel_rfl) opens4 (opens_last rfl (by kernel_rfl) opens4)))
  exact ⟨h.out⟩
theorem opens34 : Opens Try.prog 34 (Kd.slice 25 k25) (wfL wf25) := opens_slice Try.underlying34 (by kernel_rfl) opens25

end Go.Proofs.Ytieigkiaihcgeaa.P
