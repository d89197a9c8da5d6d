import Derived.Test.YtadfjldepombnaaP0
import Derived.Test.YtadfjldepombnaaOpen
import Derived.KernelRfl
namespace Go.Proofs.Ytadfjldepombnaa.P
open Go.RowKit Go.Proofs.YtadfjldepombnaaW.PrintWords Go.Proofs.YtadfjldepombnaaW.PrintLast Go.Proofs.YtadfjldepombnaaW.PrintMore Go.Proofs.Ytadfjldepombnaa.Opn
set_option linter.unusedVariables false

theorem opens3 : Opens Try.prog 3 (Kd.int .i64) wfI := opens_int Try.underlying3
theorem opens22 : Opens Try.prog 22 (Kd.slice 3 (Kd.int .i64)) (wfL wfI) := opens_slice Try.underlying22 (by kernel_rfl) opens3
def wf24 (x : S24) : Prop := (wfL wfI) x.f0 ∧ wfI x.f1
theorem opens24 : Opens Try.prog 24 k24 wf24 := by
  have h := opens_struct (f := (fun x : S24 => (x.f0, x.f1))) Try.underlying24 (by kernel_rfl) (fun y => ⟨y.1, y.2⟩) (fun _ => rfl) (opens_cons rfl (by kernel_rfl) opens22 (opens_last rfl (by kernel_rfl) opens3))
  exact ⟨h.out⟩

end Go.Proofs.Ytadfjldepombnaa.P
