import Derived.Test.YtadfjldepombnaaQFnExactSpreadOf
import Derived.Test.YtadfjldepombnaaBSh
import Derived.Test.YtadfjldepombnaaPf20
import Derived.Test.YtadfjldepombnaaPf21
namespace Go.Proofs.Ytadfjldepombnaa.Pure
open Go.RowKit Go.Proofs.Ytadfjldepombnaa.P Go.Proofs.YtadfjldepombnaaW.PrintWords Go.Proofs.YtadfjldepombnaaW.PrintLast Go.Proofs.Ytadfjldepombnaa.Opn
set_option linter.unusedVariables false
set_option linter.unusedSimpArgs false

theorem least_eq (a b : Int) : spec_l1Least.f a b = some (mn b a) := by
  unfold spec_l1Least.f mn
  by_cases h : a < b
  · rw [if_pos h, if_pos (by omega)]
  · rw [if_neg h, if_neg (by omega)]
theorem most_eq (a b : Int) : spec_l1Most.f a b = some (mx b a) := by
  unfold spec_l1Most.f mx
  by_cases h : a > b
  · rw [if_pos h, if_pos (by omega)]
  · rw [if_neg h, if_neg (by omega)]
theorem mn_comm (a b : Int) : mn a b = mn b a := by unfold mn; split <;> split <;> omega
theorem mx_comm (a b : Int) : mx a b = mx b a := by unfold mx; split <;> split <;> omega
theorem mn_self (a : Int) : mn a a = a := by unfold mn; split <;> omega
theorem mx_self (a : Int) : mx a a = a := by unfold mx; split <;> omega
theorem spread_l0 (l : List Int) (hn : l.length ≤ 1048576) : ∀ (d k i : Nat) (a b : Int), i + d = l.length → d < k → spec_l10Spread.l0 k a b l (l.length : Int) (i : Int) = some (wrap64 ((l.drop i).foldl (fun m y => mx m y) b - (l.drop i).foldl (fun m y => mn m y) a)) := by
  intro d
  induction d with
  | zero =>
    intro k i a b h hk
    obtain ⟨k, rfl⟩ := round hk
    simp only [spec_l10Spread.l0]
    rw [if_neg (by omega), List.drop_of_length_le (by omega)]
    rfl
  | succ d ih =>
    intro k i a b h hk
    obtain ⟨k, rfl⟩ := round hk
    simp only [spec_l10Spread.l0, least_eq, most_eq, Option.bind_some]
    rw [if_pos (by omega), if_pos (by omega), if_pos (by omega), drop_rd l i (by omega), wrap_id (x := (i : Int) + 1) (by omega) (by omega)]
    have := ih k (i + 1) (mn (rd l (i : Int)) a) (mx (rd l (i : Int)) b) (by omega) (by omega)
    rw [mn_comm, mx_comm] at this ⊢
    simpa using this
theorem spread (l : List Int) (r : Int) (hn : l.length ≤ 1048576) (h0 : 0 < l.length) (k : Nat) (hk : l.length < k) : spec_l10Spread.f k l r = some (wrap64 ((l.drop 1).foldl (fun m y => mx m y) (rd l 0) - (l.drop 1).foldl (fun m y => mn m y) (rd l 0))) := by
  unfold spec_l10Spread.f
  rw [if_pos (by omega)]
  have := spread_l0 l hn l.length k 0 (rd l 0) (rd l 0) (by omega) hk
  rw [drop_rd l 0 h0] at this
  simpa [mn_self, mx_self] using this
def spr (l : List Int) (r : Int) : Int × Bool := if goodS l r = true then (wrap64 ((l.drop 1).foldl (fun m y => mx m y) (rd l 0) - (l.drop 1).foldl (fun m y => mn m y) (rd l 0)), true) else (0, false)
theorem good_pos {l : List Int} {r : Int} (h : goodS l r = true) : 0 < l.length := by
  unfold goodS at h
  simp only [Bool.and_eq_true, decide_eq_true_eq] at h
  omega
theorem spec_spr (l : List Int) (r : Int) (hn : l.length ≤ 1048576) (k : Nat) (hk : l.length < k) : spec_SpreadOf.f k l r = some (spr l r) := by
  unfold spec_SpreadOf.f spr
  rw [spec_good l r hn k hk, Option.bind_some]
  by_cases h : goodS l r = true
  · rw [if_pos h, if_pos h, spread l r hn (good_pos h) k hk, Option.bind_some]
  · rw [if_neg h, if_neg h]
theorem impl_spr (l : List Int) (r : Int) : impl_SpreadOf.f l r = some (spr l r) := by
  unfold impl_SpreadOf.f spr
  rw [impl_good, Option.bind_some]
  by_cases h : goodS l r = true
  · have := good_pos h
    rw [if_pos h, if_pos h]
    unfold slices_Max_int_int.f slices_Min_int_int.f
    rw [if_neg (by omega), if_neg (by omega)]
    rfl
  · rw [if_neg h, if_neg h]
theorem FnExactSpreadOf : laws_FnExactSpreadOf.Pure := by
  intro l r hl _
  by_cases hn : l.length ≤ 1048576
  · refine ⟨l.length + 2, ?_⟩
    unfold laws_FnExactSpreadOf.f
    rw [szShares_ok l r _ (by omega) (by omega) (by omega), Option.bind_some, if_neg (by omega)]
    simp only [toShares l r hn (l.length + 2) (by omega), Option.bind_some, spec_spr l r hn (l.length + 2) (by omega), impl_spr, laws_FnExactSpreadOf.j0, toShares l r hn (l.length + 1) (by omega), eqShares l r l r hn (l.length + 1) (by omega)]
    simp
  · refine ⟨0, ?_⟩
    unfold laws_FnExactSpreadOf.f
    rw [szShares_big l r _ (by omega) (by omega) hl.1 (by omega), Option.bind_some, if_pos (by omega)]

end Go.Proofs.Ytadfjldepombnaa.Pure
