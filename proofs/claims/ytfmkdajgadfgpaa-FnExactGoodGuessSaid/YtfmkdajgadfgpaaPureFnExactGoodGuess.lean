import Derived.Test.YtfmkdajgadfgpaaQFnExactGoodGuess
namespace Go.Proofs.Ytfmkdajgadfgpaa.Pure
open Go.RowKit Go.Proofs.Ytfmkdajgadfgpaa.P Go.Proofs.YtfmkdajgadfgpaaW.PrintWords Go.Proofs.YtfmkdajgadfgpaaW.PrintLast Go.Proofs.Ytfmkdajgadfgpaa.Opn
set_option linter.unusedVariables false
set_option linter.unusedSimpArgs false

theorem in_eq (a b c : Int) : impl_in.f a b c = spec_l1In.f a b c := rfl
theorem spec_in (a b c : Int) : spec_l1In.f a b c = some (decide (b ≤ a ∧ a ≤ c)) := by
  unfold spec_l1In.f
  by_cases h : a ≥ b
  · rw [if_pos h]
    by_cases h2 : a ≤ c
    · simp [h, h2]
    · simp [h2]
  · rw [if_neg h]
    have : ¬ b ≤ a := by omega
    simp [this]
theorem good_eq (a b c d : Int) : impl_GoodGuess.f a b c d = spec_GoodGuess.f a b c d := by
  unfold impl_GoodGuess.f spec_GoodGuess.f
  simp only [in_eq]
theorem good_some (a b c d : Int) : ∃ r, spec_GoodGuess.f a b c d = some r := by
  unfold spec_GoodGuess.f
  simp only [spec_in, Option.bind_some]
  repeat' split
  all_goals exact ⟨_, rfl⟩
theorem FnExactGoodGuess : laws_FnExactGoodGuess.Pure := by
  intro a b c d _ _ _ _
  obtain ⟨r, hr⟩ := good_some a b c d
  unfold laws_FnExactGoodGuess.f laws_toGuess.f
  simp only [Option.bind_some, good_eq, hr]
  simp

end Go.Proofs.Ytfmkdajgadfgpaa.Pure
