import Derived.Test.YtadfjldepombnaaQFnExactIsFairer
import Derived.Test.YtadfjldepombnaaBFair
import Derived.Test.YtadfjldepombnaaPf18
import Derived.Test.YtadfjldepombnaaPf19
namespace Go.Proofs.Ytadfjldepombnaa.Pure
open Go.RowKit Go.Proofs.Ytadfjldepombnaa.P Go.Proofs.YtadfjldepombnaaW.PrintWords Go.Proofs.YtadfjldepombnaaW.PrintLast Go.Proofs.Ytadfjldepombnaa.Opn
set_option linter.unusedVariables false
set_option linter.unusedSimpArgs false

def fairer (l : List Int) (r : Int) (l' : List Int) (r' : Int) : Bool × Bool :=
  if goodS l r = true ∧ goodS l' r' = true ∧ (l.length : Int) = l'.length then (decide (wrap64 ((fair l r).1 * (fair l' r').2.1) > wrap64 ((fair l' r').1 * (fair l r).2.1)), true) else (false, false)
theorem fair_ok (l : List Int) (r : Int) : (fair l r).2.2 = goodS l r := by
  unfold fair
  cases h : goodS l r <;> simp
theorem impl_fairer (l : List Int) (r : Int) (l' : List Int) (r' : Int) (hn : l.length ≤ 1048576) (hn' : l'.length ≤ 1048576) (k : Nat) (hk : 2 * l.length + 1 < k) (hk' : 2 * l'.length + 1 < k) : impl_IsFairer.f k l r l' r' = some (fairer l r l' r') := by
  unfold impl_IsFairer.f fairer
  simp only [impl_fair l r hn k hk, impl_fair l' r' hn' k hk', Option.bind_some, fair_ok]
  by_cases h1 : goodS l r = true <;> by_cases h2 : goodS l' r' = true <;> by_cases h3 : (l.length : Int) = l'.length <;> simp [h1, h2, h3]
theorem spec_fairer (l : List Int) (r : Int) (l' : List Int) (r' : Int) (hn : l.length ≤ 1048576) (hn' : l'.length ≤ 1048576) (k : Nat) (hk : l.length + 1 < k) (hk' : l'.length + 1 < k) : spec_IsFairer.f k l r l' r' = some (fairer l r l' r') := by
  obtain ⟨k, rfl⟩ := round hk
  unfold spec_IsFairer.f fairer
  simp only [spec_good l r hn (k + 1) (by omega), spec_good l' r' hn' (k + 1) (by omega), Option.bind_some, spec_IsFairer.j0, l10F l r hn k (by omega), l10F l' r' hn' k (by omega)]
  by_cases h1 : goodS l r = true <;> by_cases h2 : goodS l' r' = true <;> by_cases h3 : (l.length : Int) = l'.length <;> simp [h1, h2, h3, fair]
theorem FnExactIsFairer : laws_FnExactIsFairer.Pure := by
  intro l r l' r' hl _ hl' _
  by_cases hn : (l.length : Int) ≤ 1048576
  · by_cases hn' : (l'.length : Int) ≤ 1048576 - l.length
    · refine ⟨2 * l.length + 2 * l'.length + 4, ?_⟩
      unfold laws_FnExactIsFairer.f
      rw [szShares_ok l r _ (by omega) (by omega) (by omega), Option.bind_some, if_neg (by omega), szShares_ok l' r' _ (by omega) (by omega) (by omega), Option.bind_some, if_neg (by omega)]
      simp only [toShares l r (by omega) (2 * l.length + 2 * l'.length + 4) (by omega), toShares l' r' (by omega) (2 * l.length + 2 * l'.length + 4) (by omega), Option.bind_some, spec_fairer l r l' r' (by omega) (by omega) (2 * l.length + 2 * l'.length + 4) (by omega) (by omega), impl_fairer l r l' r' (by omega) (by omega) (2 * l.length + 2 * l'.length + 4) (by omega) (by omega), laws_FnExactIsFairer.j0, toShares l r (by omega) (2 * l.length + 2 * l'.length + 3) (by omega), eqShares l r l r (by omega) (2 * l.length + 2 * l'.length + 3) (by omega), toShares l' r' (by omega) (2 * l.length + 2 * l'.length + 3) (by omega), eqShares l' r' l' r' (by omega) (2 * l.length + 2 * l'.length + 3) (by omega)]
      simp
    · refine ⟨0, ?_⟩
      unfold laws_FnExactIsFairer.f
      rw [szShares_ok l r _ (by omega) (by omega) (by omega), Option.bind_some, if_neg (by omega), szShares_big l' r' _ (by omega) (by omega) hl'.1 (by omega), Option.bind_some, if_pos (by omega)]
  · refine ⟨0, ?_⟩
    unfold laws_FnExactIsFairer.f
    rw [szShares_big l r _ (by omega) (by omega) hl.1 (by omega), Option.bind_some, if_pos (by omega)]

end Go.Proofs.Ytadfjldepombnaa.Pure
