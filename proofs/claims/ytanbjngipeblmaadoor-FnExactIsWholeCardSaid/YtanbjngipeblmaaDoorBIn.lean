import Derived.Test.YtanbjngipeblmaaDoorBL
import Derived.Test.YtanbjngipeblmaaDoorPf13
import Derived.Test.YtanbjngipeblmaaDoorPf23
namespace Go.Proofs.YtanbjngipeblmaaDoor.Pure
open Go.RowKit Go.Proofs.YtanbjngipeblmaaDoor.P Go.Proofs.YtanbjngipeblmaaDoorW.PrintWords Go.Proofs.YtanbjngipeblmaaDoorW.PrintLast Go.Proofs.YtanbjngipeblmaaDoor.Opn
set_option linter.unusedVariables false
set_option linter.unusedSimpArgs false

theorem spec_in (a b c : Int) : spec_l1In.f a b c = some (decide (b ≤ a ∧ a ≤ c)) := by
  unfold spec_l1In.f
  by_cases h : a ≥ b
  · rw [if_pos h]
    by_cases h2 : a ≤ c
    · simp [h, h2]
    · simp [h2]
  · rw [if_neg h]
    have : ¬ b ≤ a := by omega
    simp [this]
theorem impl_in_ (a b c : Int) : impl_in.f a b c = some (decide (b ≤ a ∧ a ≤ c)) := spec_in a b c

end Go.Proofs.YtanbjngipeblmaaDoor.Pure
