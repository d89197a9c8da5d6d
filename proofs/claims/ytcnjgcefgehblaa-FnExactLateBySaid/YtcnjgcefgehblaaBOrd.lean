import Derived.Test.YtcnjgcefgehblaaBHas
import Derived.Test.YtcnjgcefgehblaaBIn
import Derived.Test.YtcnjgcefgehblaaPf41
import Derived.Test.YtcnjgcefgehblaaPf43
namespace Go.Proofs.Ytcnjgcefgehblaa.Pure
open Go.RowKit Go.Proofs.Ytcnjgcefgehblaa.P Go.Proofs.YtcnjgcefgehblaaW.PrintWords Go.Proofs.YtcnjgcefgehblaaW.PrintLast Go.Proofs.Ytcnjgcefgehblaa.Opn
set_option linter.unusedVariables false
set_option linter.unusedSimpArgs false

theorem order_l0 (l : List Int) (m : Int) (hm : 0 ≤ m) (hm2 : m ≤ 1000) (hn : l.length ≤ 1048576) : ∀ (d k i : Nat), i + d = l.length → d + l.length < k → ∃ b, spec_l11Order.l0 k l m l (l.length : Int) (i : Int) = some b ∧ impl_isComing.l0 k l m l (l.length : Int) (i : Int) = some b ∧ (b = true → ∀ j : Nat, i ≤ j → j < l.length → 0 ≤ rd l (j : Int) ∧ rd l (j : Int) ≤ m - 1 ∧ rd l (j : Int) ∉ l.take j) := by
  intro d
  induction d with
  | zero =>
    intro k i h hk
    obtain ⟨k, rfl⟩ := round hk
    refine ⟨true, ?_, ?_, fun _ j h1 h2 => by omega⟩
    · simp only [spec_l11Order.l0]
      rw [if_neg (by omega)]
    · simp only [impl_isComing.l0]
      rw [if_neg (by omega)]
  | succ d ih =>
    intro k i h hk
    obtain ⟨k, rfl⟩ := round hk
    simp only [spec_l11Order.l0, impl_isComing.l0, spec_in, impl_in_, Option.bind_some, Int.toNat_natCast, wrap_id (x := m - 1) (by omega) (by omega)]
    simp only [if_pos (show (i : Int) < (l.length : Int) by omega), if_pos (show (0 : Int) ≤ (i : Int) by omega), if_pos (show (i : Int) ≤ (l.length : Int) by omega)]
    by_cases hc : 0 ≤ rd l (i : Int) ∧ rd l (i : Int) ≤ m - 1
    · simp only [hc, and_self, decide_true, if_true]
      have ht : (l.take i).length ≤ 1048576 := by rw [List.length_take]; omega
      have hk' : (l.take i).length < k := by rw [List.length_take]; omega
      rw [l1Has _ _ ht k hk', containsI _ _ ht k hk', Option.bind_some, Option.bind_some]
      by_cases hh : rd l (i : Int) ∈ l.take i
      · simp only [hh, decide_true, if_true]
        exact ⟨false, rfl, rfl, fun h => by cases h⟩
      · simp only [hh, decide_false, Bool.false_eq_true, if_false]
        rw [wrap_id (x := (i : Int) + 1) (by omega) (by omega)]
        obtain ⟨b, h1, h2, h3⟩ := ih k (i + 1) (by omega) (by omega)
        refine ⟨b, by simpa using h1, by simpa using h2, fun hb j hj hl => ?_⟩
        by_cases e : j = i
        · subst e
          exact ⟨hc.1, hc.2, hh⟩
        · exact h3 hb j (by omega) hl
    · simp only [hc, decide_false, Bool.false_eq_true, if_false]
      exact ⟨false, rfl, rfl, fun h => by cases h⟩
theorem order (l : List Int) (m : Int) (hm : 0 ≤ m) (hm2 : m ≤ 1000) (hn : l.length ≤ 1048576) (k k' : Nat) (hk : 2 * l.length < k) (hk' : 2 * l.length < k') : ∃ b, spec_l11Order.f k l m = some b ∧ impl_isComing.f k' l m = some b ∧ (b = true → ∀ j : Nat, j < l.length → 0 ≤ rd l (j : Int) ∧ rd l (j : Int) ≤ m - 1 ∧ rd l (j : Int) ∉ l.take j) := by
  obtain ⟨b, h1, _, h3⟩ := order_l0 l m hm hm2 hn l.length k 0 (by omega) (by omega)
  obtain ⟨b', h4, h5, _⟩ := order_l0 l m hm hm2 hn l.length k' 0 (by omega) (by omega)
  have hmono : ∀ n k r, spec_l11Order.l0 k l m l (l.length : Int) (0 : Nat) = some r → spec_l11Order.l0 (k + n) l m l (l.length : Int) (0 : Nat) = some r := by
    intro n
    induction n with
    | zero => intro k r h; exact h
    | succ n ih => intro k r h; exact spec_l11Order.mono_l _ _ _ _ _ _ r (ih k r h)
  have e : b = b' := by
    have e1 := hmono k' k b h1
    have e2 := hmono k k' b' h4
    rw [Nat.add_comm] at e2
    rw [e1] at e2
    exact Option.some.inj e2
  subst e
  exact ⟨b, by simpa [spec_l11Order.f] using h1, by simpa [impl_isComing.f] using h5, fun hb j hj => h3 hb j (by omega) hj⟩

end Go.Proofs.Ytcnjgcefgehblaa.Pure
