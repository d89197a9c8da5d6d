import Derived.Test.YteookggoanjpaaaP0
import Derived.Test.YteookggoanjpaaaOpen
import Derived.KernelRfl
namespace Go.Proofs.Yteookggoanjpaaa.P
open Go.RowKit Go.Proofs.YteookggoanjpaaaW.PrintWords Go.Proofs.YteookggoanjpaaaW.PrintLast Go.Proofs.YteookggoanjpaaaW.PrintMore Go.Proofs.Yteookggoanjpaaa.Opn
set_option linter.unusedVariables false

theorem opens3 : Opens Try.prog 3 (Kd.int .i64) wfI := opens_int Try.underlying3
theorem opens9 : Opens Try.prog 9 Kd.string wfS := opens_string Try.underlying9
def wf91 (x : S91) : Prop := wfI x.f0 ∧ wfI x.f1
theorem opens91 : Opens Try.prog 91 k91 wf91 := by
  have h := opens_struct (f := (fun x : S91 => (x.f0, x.f1))) Try.underlying91 (by kernel_rfl) (fun y => ⟨y.1, y.2⟩) (fun _ => rfl) (opens_cons rfl (by kernel_rfl) opens3 (opens_last rfl (by kernel_rfl) opens3))
  exact ⟨h.out⟩
theorem opens28 : Opens Try.prog 28 (Kd.slice 91 k91) (wfL wf91) := opens_slice Try.underlying28 (by kernel_rfl) opens91
def wf30 (x : S30) : Prop := wfI x.f0 ∧ wfI x.f1 ∧ wfS x.f2 ∧ (wfL wf91) x.f3
theorem opens30 : Opens Try.prog 30 k30 wf30 := by
  have h := opens_struct (f := (fun x : S30 => (x.f0, x.f1, x.f2, x.f3))) Try.underlying30 (by kernel_rfl) (fun y => ⟨y.1, y.2.1, y.2.2.1, y.2.2.2⟩) (fun _ => rfl) (opens_cons rfl (by kernel_rfl) opens3 (opens_cons rfl (by kernel_rfl) opens3 (opens_cons rfl (by kernel_rfl) opens9 (opens_last rfl (by kernel_rfl) opens28))))
  exact ⟨h.out⟩

end Go.Proofs.Yteookggoanjpaaa.P
