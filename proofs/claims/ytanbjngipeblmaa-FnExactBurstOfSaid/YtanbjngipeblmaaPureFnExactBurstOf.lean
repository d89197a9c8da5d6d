import Derived.Test.YtanbjngipeblmaaQFnExactBurstOf
import Derived.Test.YtanbjngipeblmaaBL
import Derived.Test.YtanbjngipeblmaaBIn
import Derived.Test.YtanbjngipeblmaaPf12
import Derived.Test.YtanbjngipeblmaaPf13
namespace Go.Proofs.Ytanbjngipeblmaa.Pure
open Go.RowKit Go.Proofs.Ytanbjngipeblmaa.P Go.Proofs.YtanbjngipeblmaaW.PrintWords Go.Proofs.YtanbjngipeblmaaW.PrintLast Go.Proofs.Ytanbjngipeblmaa.Opn
set_option linter.unusedVariables false
set_option linter.unusedSimpArgs false

theorem burst_eq (a0 : ByteArray) (a1 a2 : Int) : impl_BurstOf.f a0 a1 a2 = spec_BurstOf.f a0 a1 a2 := by
  unfold impl_BurstOf.f spec_BurstOf.f impl_isBurst.f
  simp only [impl_in_, spec_in, Option.bind_some]
  by_cases h1 : (a0.size : Int) ≤ 120
  · have h0 : (0 : Int) ≤ a0.size := by omega
    have h1' : ¬ (a0.size : Int) > 120 := by omega
    rw [if_neg h1', if_pos (by simp [h0, h1])]
    by_cases h2 : 0 ≤ a1 ∧ a1 ≤ (a0.size : Int)
    · rw [if_pos (by simpa using h2), if_pos (by simpa using h2), Option.bind_some]
    · rw [if_neg (by simpa using h2), if_neg (by simpa using h2), Option.bind_some, if_neg (by simp)]
  · have h1' : (a0.size : Int) > 120 := by omega
    rw [if_pos h1', if_neg (by simp [h1]), Option.bind_some, if_neg (by simp)]
theorem burst_some (a0 : ByteArray) (a1 a2 : Int) : ∃ q, spec_BurstOf.f a0 a1 a2 = some q := by
  unfold spec_BurstOf.f
  simp only [spec_in, Option.bind_some]
  repeat' split
  all_goals exact ⟨_, rfl⟩
theorem FnExactBurstOf : laws_FnExactBurstOf.Pure := by
  intro a0 a1 a2 _ _ _
  obtain ⟨q, hq⟩ := burst_some a0 a1 a2
  unfold laws_FnExactBurstOf.f
  rw [burst_eq, hq]
  simp

end Go.Proofs.Ytanbjngipeblmaa.Pure
