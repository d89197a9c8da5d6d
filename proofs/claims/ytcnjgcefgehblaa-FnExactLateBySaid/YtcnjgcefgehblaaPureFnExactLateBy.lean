import Derived.Test.YtcnjgcefgehblaaQFnExactLateBy
import Derived.Test.YtcnjgcefgehblaaBOrd
import Derived.Test.YtcnjgcefgehblaaBInt
import Derived.Test.YtcnjgcefgehblaaPf11
import Derived.Test.YtcnjgcefgehblaaPf13
namespace Go.Proofs.Ytcnjgcefgehblaa.Pure
open Go.RowKit Go.Proofs.Ytcnjgcefgehblaa.P Go.Proofs.YtcnjgcefgehblaaW.PrintWords Go.Proofs.YtcnjgcefgehblaaW.PrintLast Go.Proofs.Ytcnjgcefgehblaa.Opn
set_option linter.unusedVariables false
set_option linter.unusedSimpArgs false

theorem most_eq (a b : Int) : spec_l1Most.f a b = some (mx a b) := by
  unfold spec_l1Most.f mx
  by_cases h : a > b
  · rw [if_pos h, if_neg (by omega)]
  · rw [if_neg h]
    congr 1
    split <;> omega
theorem late_l0 (l : List Int) (hn : l.length ≤ 1048576) (hb : ∀ j : Nat, j < l.length → 0 ≤ rd l (j : Int) ∧ rd l (j : Int) ≤ 59) : ∀ (d k i : Nat) (out top most : Int), i + d = l.length → d < k → 0 ≤ out → -1 ≤ top → top ≤ 59 → most = mx top 0 → ∃ r, spec_LateBy.l0 k out top l (l.length : Int) (i : Int) = some r ∧ impl_LateBy.l0 k out most l (l.length : Int) (i : Int) = some r := by
  intro d
  induction d with
  | zero =>
    intro k i out top most h hk _ _ _ _
    obtain ⟨k, rfl⟩ := round hk
    simp only [spec_LateBy.l0, impl_LateBy.l0]
    rw [if_neg (by omega), if_neg (by omega)]
    exact ⟨_, rfl, rfl⟩
  | succ d ih =>
    intro k i out top most h hk ho ht ht2 hm
    obtain ⟨k, rfl⟩ := round hk
    obtain ⟨b0, b1⟩ := hb i (by omega)
    simp only [spec_LateBy.l0, impl_LateBy.l0, most_eq, Option.bind_some, wrap_id (x := (i : Int) + 1) (by omega) (by omega)]
    simp only [if_pos (show (i : Int) < (l.length : Int) by omega), if_pos (show (0 : Int) ≤ (i : Int) by omega)]
    generalize rd l (i : Int) = y at b0 b1
    have e1 : mx most y = mx (mx top y) 0 := by subst hm; unfold mx; repeat' split <;> omega
    have e2 : mx out (wrap64 (mx most y - y)) = mx out (wrap64 (top - y)) := by
      subst hm
      have h1 : -1 ≤ mx (mx top 0) y ∧ mx (mx top 0) y ≤ 59 := by unfold mx; repeat' split <;> omega
      rw [wrap_id (by omega) (by omega), wrap_id (by omega) (by omega)]
      unfold mx
      repeat' split <;> omega
    rw [e2]
    have := ih k (i + 1) (mx out (wrap64 (top - y))) (mx top y) (mx most y) (by omega) (by omega) (by unfold mx; split <;> omega) (by unfold mx; split <;> omega) (by unfold mx; split <;> omega) e1
    simpa using this
theorem FnExactLateBy : laws_FnExactLateBy.Pure := by
  intro l hl
  by_cases hn : l.length ≤ 1048576
  · refine ⟨2 * l.length + 3, ?_⟩
    unfold laws_FnExactLateBy.f spec_LateBy.f impl_LateBy.f
    obtain ⟨b, h1, h2, h3⟩ := order l 60 (by omega) (by omega) hn (2 * l.length + 3) (2 * l.length + 3) (by omega) (by omega)
    rw [if_neg (by omega)]
    simp only [toIntS l hn (2 * l.length + 3) (by omega), Option.bind_some, h1, h2]
    cases b with
    | false =>
      simp only [Bool.false_eq_true, if_false, Option.bind_some, laws_FnExactLateBy.j0, toIntS l hn (2 * l.length + 2) (by omega), eqIntS l l hn (2 * l.length + 2) (by omega)]
      simp
    | true =>
      obtain ⟨r, e1, e2⟩ := late_l0 l hn (fun j hj => ⟨(h3 rfl j hj).1, (h3 rfl j hj).2.1⟩) l.length (2 * l.length + 3) 0 0 (-1) 0 (by omega) (by omega) (by omega) (by omega) (by omega) (by decide)
      have e1' : spec_LateBy.l0 (2 * l.length + 3) 0 (-1) l (l.length : Int) 0 = some r := by simpa using e1
      have e2' : impl_LateBy.l0 (2 * l.length + 3) 0 0 l (l.length : Int) 0 = some r := by simpa using e2
      simp only [if_true, e1', e2', Option.bind_some, laws_FnExactLateBy.j0, toIntS l hn (2 * l.length + 2) (by omega), eqIntS l l hn (2 * l.length + 2) (by omega)]
      simp
  · refine ⟨0, ?_⟩
    unfold laws_FnExactLateBy.f
    rw [if_pos (by omega)]

end Go.Proofs.Ytcnjgcefgehblaa.Pure
