import Derived.Test.YtcnjgcefgehblaaBL
import Derived.Test.YtcnjgcefgehblaaPf69
import Derived.Test.YtcnjgcefgehblaaPf70
namespace Go.Proofs.Ytcnjgcefgehblaa.Pure
open Go.RowKit Go.Proofs.Ytcnjgcefgehblaa.P Go.Proofs.YtcnjgcefgehblaaW.PrintWords Go.Proofs.YtcnjgcefgehblaaW.PrintLast Go.Proofs.Ytcnjgcefgehblaa.Opn
set_option linter.unusedVariables false
set_option linter.unusedSimpArgs false

theorem l1Has_l0 (l : List Int) (a : Int) (hn : l.length ≤ 1048576) : ∀ (d k i : Nat), i + d = l.length → d < k → spec_l1Has.l0 k a l (l.length : Int) (i : Int) = some (decide (a ∈ l.drop i)) := by
  intro d
  induction d with
  | zero =>
    intro k i h hk
    obtain ⟨k, rfl⟩ := round hk
    simp only [spec_l1Has.l0]
    rw [if_neg (by omega), List.drop_of_length_le (by omega)]
    simp
  | succ d ih =>
    intro k i h hk
    obtain ⟨k, rfl⟩ := round hk
    simp only [spec_l1Has.l0]
    rw [if_pos (by omega), if_pos (by omega), if_pos (by omega), drop_rd l i (by omega)]
    by_cases hc : rd l (i : Int) = a
    · rw [if_pos hc]
      simp [hc]
    · rw [if_neg hc, wrap_id (by omega) (by omega)]
      have := ih k (i + 1) (by omega) (by omega)
      have hc' : ¬ a = rd l (i : Int) := fun e => hc e.symm
      simpa [hc'] using this
theorem l1Has (l : List Int) (a : Int) (hn : l.length ≤ 1048576) (k : Nat) (hk : l.length < k) : spec_l1Has.f k l a = some (decide (a ∈ l)) := by
  unfold spec_l1Has.f
  have := l1Has_l0 l a hn l.length k 0 (by omega) hk
  simpa using this
theorem index_l0 (l : List Int) (a : Int) (hn : l.length ≤ 1048576) : ∀ (d k i : Nat), i + d = l.length → d < k → ∃ r, slices_Index_int_int.l0 k l a (l.length : Int) (i : Int) = some r ∧ decide (r ≥ 0) = decide (a ∈ l.drop i) := by
  intro d
  induction d with
  | zero =>
    intro k i h hk
    obtain ⟨k, rfl⟩ := round hk
    refine ⟨-1, ?_, ?_⟩
    · simp only [slices_Index_int_int.l0]
      rw [if_neg (by omega)]
    · rw [List.drop_of_length_le (by omega)]
      simp
  | succ d ih =>
    intro k i h hk
    obtain ⟨k, rfl⟩ := round hk
    simp only [slices_Index_int_int.l0]
    rw [if_pos (by omega), if_pos (by omega), if_pos (by omega), drop_rd l i (by omega)]
    by_cases hc : a = rd l (i : Int)
    · rw [if_pos hc]
      exact ⟨i, rfl, by simp [hc]⟩
    · rw [if_neg hc, wrap_id (by omega) (by omega)]
      have := ih k (i + 1) (by omega) (by omega)
      simpa [hc] using this
theorem containsI (l : List Int) (a : Int) (hn : l.length ≤ 1048576) (k : Nat) (hk : l.length < k) : slices_Contains_int_int.f k l a = some (decide (a ∈ l)) := by
  unfold slices_Contains_int_int.f slices_Index_int_int.f
  obtain ⟨r, hr, hd⟩ := index_l0 l a hn l.length k 0 (by omega) hk
  have hr' : slices_Index_int_int.l0 k l a (l.length : Int) 0 = some r := by simpa using hr
  rw [hr', Option.bind_some, hd]
  simp

end Go.Proofs.Ytcnjgcefgehblaa.Pure
