import Derived.Test.YtfmkdajgadfgpaaP0
import Derived.Test.YtfmkdajgadfgpaaOpen
import Derived.KernelRfl
namespace Go.Proofs.Ytfmkdajgadfgpaa.P
open Go.RowKit Go.Proofs.YtfmkdajgadfgpaaW.PrintWords Go.Proofs.YtfmkdajgadfgpaaW.PrintLast Go.Proofs.YtfmkdajgadfgpaaW.PrintMore Go.Proofs.Ytfmkdajgadfgpaa.Opn
set_option linter.unusedVariables false

theorem opens3 : Opens Try.prog 3 (Kd.int .i64) wfI := opens_int Try.underlying3
def wf23 (x : S23) : Prop := wfI x.f0 ∧ wfI x.f1 ∧ wfI x.f2 ∧ wfI x.f3
theorem opens23 : Opens Try.prog 23 k23 wf23 := by
  have h := opens_struct (f := (fun x : S23 => (x.f0, x.f1, x.f2, x.f3))) Try.underlying23 (by kernel_rfl) (fun y => ⟨y.1, y.2.1, y.2.2.1, y.2.2.2⟩) (fun _ => rfl) (opens_cons rfl (by kernel_rfl) opens3 (opens_cons rfl (by kernel_rfl) opens3 (opens_cons rfl (by kernel_rfl) opens3 (opens_last rfl (by kernel_rfl) opens3))))
  exact ⟨h.out⟩
theorem opens4 : Opens Try.prog 4 Kd.bool wfB := opens_bool Try.underlying4
def wf35 (x : S35) : Prop := wfI x.f0 ∧ wfB x.f1 ∧ wfB x.f2
theorem opens35 : Opens Try.prog 35 k35 wf35 := by
  have h := opens_struct (f := (fun x : S35 => (x.f0, x.f1, x.f2))) Try.underlying35 (by kernel_rfl) (fun y => ⟨y.1, y.2.1, y.2.2⟩) (fun _ => rfl) (opens_cons rfl (by kernel_rfl) opens3 (opens_cons rfl (by kernel_rfl) opens4 (opens_last rfl (by kernel_rfl) opens4)))
  exact ⟨h.out⟩
theorem opens40 : Opens Try.prog 40 (Kd.slice 35 k35) (wfL wf35) := opens_slice Try.underlying40 (by kernel_rfl) opens35

end Go.Proofs.Ytfmkdajgadfgpaa.P
