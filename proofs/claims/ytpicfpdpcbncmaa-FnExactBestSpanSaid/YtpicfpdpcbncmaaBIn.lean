import Derived.Test.YtpicfpdpcbncmaaBL
import Derived.Test.YtpicfpdpcbncmaaPf26
import Derived.Test.YtpicfpdpcbncmaaPf31
namespace Go.Proofs.Ytpicfpdpcbncmaa.Pure
open Go.RowKit Go.Proofs.Ytpicfpdpcbncmaa.P Go.Proofs.YtpicfpdpcbncmaaW.PrintWords Go.Proofs.YtpicfpdpcbncmaaW.PrintLast Go.Proofs.Ytpicfpdpcbncmaa.Opn
set_option linter.unusedVariables false
set_option linter.unusedSimpArgs false

theorem spec_in (a b c : Int) : spec_l1In.f a b c = some (decide (b ≤ a ∧ a ≤ c)) := by
  unfold spec_l1In.f
  by_cases h : a ≥ b
  · rw [if_pos h]
    by_cases h2 : a ≤ c
    · simp [h, h2]
    · simp [h2]
  · rw [if_neg h]
    have : ¬ b ≤ a := by omega
    simp [this]
theorem impl_in_ (a b c : Int) : impl_in.f a b c = some (decide (b ≤ a ∧ a ≤ c)) := spec_in a b c

end Go.Proofs.Ytpicfpdpcbncmaa.Pure
