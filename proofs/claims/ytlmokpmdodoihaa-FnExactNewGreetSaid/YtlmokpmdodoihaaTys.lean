import Derived.Test.YtlmokpmdodoihaaP0
import Derived.Test.YtlmokpmdodoihaaOpen
import Derived.KernelRfl
namespace Go.Proofs.Ytlmokpmdodoihaa.P
open Go.RowKit Go.Proofs.YtlmokpmdodoihaaW.PrintWords Go.Proofs.YtlmokpmdodoihaaW.PrintLast Go.Proofs.YtlmokpmdodoihaaW.PrintMore Go.Proofs.Ytlmokpmdodoihaa.Opn
set_option linter.unusedVariables false

theorem opens3 : Opens Try.prog 3 (Kd.int .i64) wfI := opens_int Try.underlying3
def wf53 (x : S53) : Prop := wfI x.f0 ∧ wfI x.f1 ∧ wfI x.f2
theorem opens53 : Opens Try.prog 53 k53 wf53 := by
  have h := opens_struct (f := (fun x : S53 => (x.f0, x.f1, x.f2))) Try.underlying53 (by kernel_rfl) (fun y => ⟨y.1, y.2.1, y.2.2⟩) (fun _ => rfl) (opens_cons rfl (by kernel_rfl) opens3 (opens_cons rfl (by kernel_rfl) opens3 (opens_last rfl (by kernel_rfl) opens3)))
  exact ⟨h.out⟩
theorem opens29 : Opens Try.prog 29 (Kd.slice 53 k53) (wfL wf53) := opens_slice Try.underlying29 (by kernel_rfl) opens53
def wf31 (x : S31) : Prop := wfI x.f0 ∧ wfI x.f1 ∧ wfI x.f2 ∧ wfI x.f3 ∧ wfI x.f4 ∧ wfI x.f5 ∧ wfI x.f6 ∧ wfI x.f7 ∧ (wfL wf53) x.f8 ∧ (wfL wf53) x.f9 ∧ (wfL wf53) x.f10
theorem opens31 : Opens Try.prog 31 k31 wf31 := by
  have h := opens_struct (f := (fun x : S31 => (x.f0, x.f1, x.f2, x.f3, x.f4, x.f5, x.f6, x.f7, x.f8, x.f9, x.f10))) Try.underlying31 (by kernel_rfl) (fun y => ⟨y.1, y.2.1, y.2.2.1, y.2.2.2.1, y.2.2.2.2.1, y.2.2.2.2.2.1, y.2.2.2.2.2.2.1, y.2.2.2.2.2.2.2.1, y.2.2.2.2.2.2.2.2.1, y.2.2.2.2.2.2.2.2.2.1, y.2.2.2.2.2.2.2.2.2.2⟩) (fun _ => rfl) (opens_cons rfl (by kernel_rfl) opens3 (opens_cons rfl (by kernel_rfl) opens3 (opens_cons rfl (by kernel_rfl) opens3 (opens_cons rfl (by kernel_rfl) opens3 (opens_cons rfl (by kernel_rfl) opens3 (opens_cons rfl (by kernel_rfl) opens3 (opens_cons rfl (by kernel_rfl) opens3 (opens_cons rfl (by kernel_rfl) opens3 (opens_cons rfl (by kernel_rfl) opens29 (opens_cons rfl (by kernel_rfl) opens29 (opens_last rfl (by kernel_rfl) opens29)))))))))))
  exact ⟨h.out⟩

end Go.Proofs.Ytlmokpmdodoihaa.P
