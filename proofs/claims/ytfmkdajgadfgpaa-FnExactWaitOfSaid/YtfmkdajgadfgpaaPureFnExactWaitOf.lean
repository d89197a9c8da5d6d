import Derived.Test.YtfmkdajgadfgpaaQFnExactWaitOf
namespace Go.Proofs.Ytfmkdajgadfgpaa.Pure
open Go.RowKit Go.Proofs.Ytfmkdajgadfgpaa.P Go.Proofs.YtfmkdajgadfgpaaW.PrintWords Go.Proofs.YtfmkdajgadfgpaaW.PrintLast Go.Proofs.Ytfmkdajgadfgpaa.Opn
set_option linter.unusedVariables false
set_option linter.unusedSimpArgs false

theorem spec_in (a b c : Int) : spec_l1In.f a b c = some (decide (b ≤ a ∧ a ≤ c)) := by
  unfold spec_l1In.f
  by_cases h : a ≥ b
  · rw [if_pos h]
    by_cases h2 : a ≤ c
    · simp [h, h2]
    · simp [h2]
  · rw [if_neg h]
    have : ¬ b ≤ a := by omega
    simp [this]
theorem in_eq (a b c : Int) : impl_in.f a b c = spec_l1In.f a b c := rfl
theorem good_eq (a b c d : Int) : impl_GoodGuess.f a b c d = spec_GoodGuess.f a b c d := by
  unfold impl_GoodGuess.f spec_GoodGuess.f
  simp only [in_eq]
theorem good_val (a b c d : Int) : spec_GoodGuess.f a b c d = some (decide ((0 ≤ a ∧ a ≤ 8000) ∧ (0 ≤ b ∧ b ≤ 4000) ∧ (0 ≤ c ∧ c ≤ 1000) ∧ (0 ≤ d ∧ d ≤ 6))) := by
  unfold spec_GoodGuess.f
  simp only [spec_in, Option.bind_some, decide_eq_true_eq]
  repeat' split
  all_goals first | (simp_all; done) | (simp_all; omega)
theorem most_eq (a b : Int) : spec_l1Most.f a b = some (mx b a) := by
  unfold spec_l1Most.f mx
  by_cases h : a > b
  · rw [if_pos h, if_pos (by omega)]
  · rw [if_neg h, if_neg (by omega)]
theorem least_eq (a b : Int) : spec_l1Least.f a b = some (mn b a) := by
  unfold spec_l1Least.f mn
  by_cases h : a < b
  · rw [if_pos h, if_pos (by omega)]
  · rw [if_neg h, if_neg (by omega)]
theorem FnExactWaitOf : laws_FnExactWaitOf.Pure := by
  intro a b c d _ _ _ _
  unfold laws_FnExactWaitOf.f laws_toGuess.f spec_WaitOf.f impl_WaitOf.f
  simp only [Option.bind_some, good_eq, good_val, decide_eq_true_eq]
  by_cases h : (0 ≤ a ∧ a ≤ 8000) ∧ (0 ≤ b ∧ b ≤ 4000) ∧ (0 ≤ c ∧ c ≤ 1000) ∧ (0 ≤ d ∧ d ≤ 6)
  · have hu : IntKind.u64.wrap d = d := by
      simp only [IntKind.wrap, IntKind.signed, IntKind.bits]
      simp
      omega
    unfold spec_l9Wait.f
    simp only [h, and_self, if_true, most_eq, least_eq, Option.bind_some, hu]
    simp [h]
  · simp [h]

end Go.Proofs.Ytfmkdajgadfgpaa.Pure
