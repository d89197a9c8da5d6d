import Derived.Test.YtadfjldepombnaaBInt
import Derived.Test.YtadfjldepombnaaBSzI
import Derived.Test.YtadfjldepombnaaBAll
import Derived.Test.YtadfjldepombnaaPf11
import Derived.Test.YtadfjldepombnaaPf13
import Derived.Test.YtadfjldepombnaaPf15
import Derived.Test.YtadfjldepombnaaPf12
import Derived.Test.YtadfjldepombnaaPf14
namespace Go.Proofs.Ytadfjldepombnaa.Pure
open Go.RowKit Go.Proofs.Ytadfjldepombnaa.P Go.Proofs.YtadfjldepombnaaW.PrintWords Go.Proofs.YtadfjldepombnaaW.PrintLast Go.Proofs.Ytadfjldepombnaa.Opn
set_option linter.unusedVariables false
set_option linter.unusedSimpArgs false

theorem szShares (l : List Int) (r a : Int) (ha : 0 ≤ a) (ha2 : a ≤ 1048576) (hl : l.length ≤ 9223372036854775807) : laws_szShares.f l r a = some (if (l.length : Int) ≤ a then a - l.length else -1) := by
  unfold laws_szShares.f
  rw [szIntS l a ha ha2 hl, Option.bind_some]
  by_cases h : (l.length : Int) ≤ a
  · simp only [h, if_true]
    rw [if_neg (by omega)]
  · simp [h]
theorem toShares (l : List Int) (r : Int) (hn : l.length ≤ 1048576) (k : Nat) (hk : l.length < k) : laws_toShares.f k l r = some (l, r) := by
  unfold laws_toShares.f
  rw [toIntS l hn k hk, Option.bind_some]
theorem eqShares (l : List Int) (r : Int) (l' : List Int) (r' : Int) (hn : l.length ≤ 1048576) (k : Nat) (hk : l.length < k) : laws_eqShares.f k l r l' r' = some (decide (l = l' ∧ r = r')) := by
  unfold laws_eqShares.f
  rw [eqIntS l l' hn k hk, Option.bind_some]
  by_cases h : l = l'
  · by_cases h2 : r = r'
    · simp [h, h2]
    · simp [h, h2]
  · simp [h]
def goodS (l : List Int) (r : Int) : Bool := decide (1 ≤ (l.length : Int) ∧ (l.length : Int) ≤ 5) && (l.all (fun x => decide (1 ≤ x ∧ x ≤ 10000)) && decide (1 ≤ r ∧ r ≤ 40000))
theorem impl_good (l : List Int) (r : Int) : impl_GoodShares.f l r = some (goodS l r) := by
  unfold impl_GoodShares.f goodS
  congr 3
  rw [List.all_eq_not_any_not]
  rfl
theorem spec_good (l : List Int) (r : Int) (hn : l.length ≤ 1048576) (k : Nat) (hk : l.length < k) : spec_GoodShares.f k l r = some (goodS l r) := by
  unfold spec_GoodShares.f goodS
  rw [spec_in, Option.bind_some, l1All l 1 10000 hn k hk]
  by_cases h : 1 ≤ (l.length : Int) ∧ (l.length : Int) ≤ 5
  · rw [if_pos (by simpa using h)]
    simp only [Option.bind_some, spec_in]
    simp only [h, and_self, decide_true, Bool.true_and]
    cases l.all (fun x => decide (1 ≤ x ∧ x ≤ 10000)) <;> simp
  · rw [if_neg (by simpa using h)]
    simp only [h, decide_false, Bool.false_and]
theorem szShares_big (l : List Int) (r a : Int) (ha : 0 ≤ a) (ha2 : a ≤ 1048576) (hl : l.length ≤ 9223372036854775807) (h : ¬ (l.length : Int) ≤ a) : laws_szShares.f l r a = some (-1) := by
  rw [szShares l r a ha ha2 hl, if_neg h]
theorem szShares_ok (l : List Int) (r a : Int) (ha : 0 ≤ a) (ha2 : a ≤ 1048576) (h : (l.length : Int) ≤ a) : laws_szShares.f l r a = some (a - l.length) := by
  rw [szShares l r a ha ha2 (by omega), if_pos h]

end Go.Proofs.Ytadfjldepombnaa.Pure
