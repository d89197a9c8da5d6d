import Derived.Test.YtcnjgcefgehblaaQFnExactNewSender
import Derived.Test.YtcnjgcefgehblaaBIn
namespace Go.Proofs.Ytcnjgcefgehblaa.Pure
open Go.RowKit Go.Proofs.Ytcnjgcefgehblaa.P Go.Proofs.YtcnjgcefgehblaaW.PrintWords Go.Proofs.YtcnjgcefgehblaaW.PrintLast Go.Proofs.Ytcnjgcefgehblaa.Opn
set_option linter.unusedVariables false
set_option linter.unusedSimpArgs false

theorem FnExactNewSender : laws_FnExactNewSender.Pure := by
  intro a _
  refine ⟨6, ?_⟩
  unfold laws_FnExactNewSender.f spec_NewSender.f impl_NewSender.f
  simp only [spec_in, impl_in_, Option.bind_some]
  by_cases h : 0 ≤ a ∧ a ≤ 60
  · simp only [h, and_self, decide_true, if_true, Option.bind_some, laws_eqSender.f]
    simp only [laws_FnExactNewSender.j0, laws_FnExactNewSender.j1, impl_NewSender.f, impl_in_, h, and_self, decide_true, if_true, Option.bind_some, laws_eqSender.f, laws_markSender.f, laws_heldSender.f]
    rfl
  · simp only [h, decide_false, Bool.false_eq_true, if_false, Option.bind_some, laws_eqSender.f]
    simp only [laws_FnExactNewSender.j0, laws_FnExactNewSender.j1, impl_NewSender.f, impl_in_, h, decide_false, Bool.false_eq_true, if_false, Option.bind_some, laws_eqSender.f, laws_markSender.f, laws_heldSender.f]
    rfl

end Go.Proofs.Ytcnjgcefgehblaa.Pure
