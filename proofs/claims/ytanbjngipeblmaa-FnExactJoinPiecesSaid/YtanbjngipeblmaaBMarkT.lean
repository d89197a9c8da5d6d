import Derived.Test.YtanbjngipeblmaaBL
import Derived.Test.YtanbjngipeblmaaPf52
namespace Go.Proofs.Ytanbjngipeblmaa.Pure
open Go.RowKit Go.Proofs.Ytanbjngipeblmaa.P Go.Proofs.YtanbjngipeblmaaW.PrintWords Go.Proofs.YtanbjngipeblmaaW.PrintLast Go.Proofs.Ytanbjngipeblmaa.Opn
set_option linter.unusedVariables false
set_option linter.unusedSimpArgs false

theorem markText_l0 : ∀ (d k : Nat) (a : Int) (x : ByteArray), 0 ≤ a → a ≤ 10000000 → a < 10 ^ d → d < k → x.size + d ≤ 1000 → ∃ t, laws_markText.l0 k a x = some t := by
  intro d
  induction d with
  | zero =>
    intro k a x h0 h2 h1 hk hx
    obtain ⟨k, rfl⟩ := round hk
    have : ¬ a > 0 := by simp at h1; omega
    rw [laws_markText.l0, if_neg this, if_pos (by omega)]
    exact ⟨_, rfl⟩
  | succ d ih =>
    intro k a x h0 h2 h1 hk hx
    obtain ⟨k, rfl⟩ := round hk
    rw [laws_markText.l0]
    by_cases hp : a > 0
    · rw [if_pos hp]
      simp only [Option.bind_some]
      rw [if_pos (by rw [strOfNums_size]; simp; omega)]
      have hq : Int.tdiv a 10 = a / 10 := Int.tdiv_eq_ediv_of_nonneg h0
      rw [hq]
      have h10 : a / 10 < 10 ^ d := by
        rw [Int.pow_succ] at h1
        omega
      rw [wrap_id (by omega) (by omega)]
      exact ih k (a / 10) _ (by omega) (by omega) h10 (by omega) (by rw [ByteArray.size_append, strOfNums_size]; simp; omega)
    · rw [if_neg hp, if_pos (by omega)]
      exact ⟨_, rfl⟩
theorem markText_some (a : Int) (h1 : a < 10000000) (k : Nat) (hk : 8 ≤ k) : ∃ t, laws_markText.f k a = some t := by
  unfold laws_markText.f
  by_cases h : a ≤ 0
  · rw [if_pos h]
    exact ⟨_, rfl⟩
  · rw [if_neg h]
    exact markText_l0 7 k a _ (by omega) (by omega) (by simpa using h1) (by omega) (by decide)
theorem mt_all : ∃ m : Int → ByteArray, ∀ a k, a < 10000000 → 8 ≤ k → laws_markText.f k a = some (m a) := by
  refine ⟨fun a => (laws_markText.f 8 a).getD ByteArray.empty, fun a k h1 hk => ?_⟩
  obtain ⟨t, ht⟩ := markText_some a h1 8 (Nat.le_refl 8)
  have e : (fun a => (laws_markText.f 8 a).getD ByteArray.empty) a = t := by
    show (laws_markText.f 8 a).getD ByteArray.empty = t
    rw [ht]
    rfl
  rw [e]
  induction k with
  | zero => omega
  | succ k ih =>
    by_cases h : 8 ≤ k
    · exact laws_markText.mono a k t (ih h)
    · have : k + 1 = 8 := by omega
      rw [this]
      exact ht
noncomputable def mt : Int → ByteArray := Classical.choose mt_all
theorem markText_mt (a : Int) (h1 : a < 10000000) (k : Nat) (hk : 8 ≤ k) : laws_markText.f k a = some (mt a) := Classical.choose_spec mt_all a k h1 hk

end Go.Proofs.Ytanbjngipeblmaa.Pure
