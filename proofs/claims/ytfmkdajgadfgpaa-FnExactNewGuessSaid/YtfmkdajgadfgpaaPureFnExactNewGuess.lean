import Derived.Test.YtfmkdajgadfgpaaQFnExactNewGuess
namespace Go.Proofs.Ytfmkdajgadfgpaa.Pure
open Go.RowKit Go.Proofs.Ytfmkdajgadfgpaa.P Go.Proofs.YtfmkdajgadfgpaaW.PrintWords Go.Proofs.YtfmkdajgadfgpaaW.PrintLast Go.Proofs.Ytfmkdajgadfgpaa.Opn
set_option linter.unusedVariables false
set_option linter.unusedSimpArgs false

theorem spec_in (a b c : Int) : spec_l1In.f a b c = some (decide (b ≤ a ∧ a ≤ c)) := by
  unfold spec_l1In.f
  by_cases h : a ≥ b
  · rw [if_pos h]
    by_cases h2 : a ≤ c
    · simp [h, h2]
    · simp [h2]
  · rw [if_neg h]
    have : ¬ b ≤ a := by omega
    simp [this]
theorem new_eq (a : Int) : impl_NewGuess.f a = spec_NewGuess.f a := rfl
theorem new_some (a : Int) : ∃ r, spec_NewGuess.f a = some r := by
  unfold spec_NewGuess.f
  simp only [spec_in, Option.bind_some]
  split
  all_goals exact ⟨_, rfl⟩
theorem FnExactNewGuess : laws_FnExactNewGuess.Pure := by
  intro a _
  obtain ⟨r, hr⟩ := new_some a
  unfold laws_FnExactNewGuess.f laws_eqGuess.f
  simp only [Option.bind_some, new_eq, hr]
  simp

end Go.Proofs.Ytfmkdajgadfgpaa.Pure
