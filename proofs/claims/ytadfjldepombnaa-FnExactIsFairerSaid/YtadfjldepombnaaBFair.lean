import Derived.Test.YtadfjldepombnaaBSh
import Derived.Test.YtadfjldepombnaaBSum
import Derived.Test.YtadfjldepombnaaPf40
import Derived.Test.YtadfjldepombnaaPf16
import Derived.Test.YtadfjldepombnaaPf17
namespace Go.Proofs.Ytadfjldepombnaa.Pure
open Go.RowKit Go.Proofs.Ytadfjldepombnaa.P Go.Proofs.YtadfjldepombnaaW.PrintWords Go.Proofs.YtadfjldepombnaaW.PrintLast Go.Proofs.Ytadfjldepombnaa.Opn
set_option linter.unusedVariables false
set_option linter.unusedSimpArgs false

def sqW (l : List Int) (s : Int) : Int := l.foldl (fun a x => wrap64 (a + wrap64 (x * x))) s
theorem l10F_l0 (l : List Int) (x4 : Int) (r : Int) (l' : List Int) (hn : l.length ≤ 1048576) : ∀ (d k i : Nat) (s : Int), i + d = l.length → d < k → spec_l10Fairness.l0 k x4 s l (l.length : Int) (i : Int) l' r = some (wrap64 (x4 * x4), wrap64 ((l'.length : Int) * sqW (l.drop i) s)) := by
  intro d
  induction d with
  | zero =>
    intro k i s h hk
    obtain ⟨k, rfl⟩ := round hk
    simp only [spec_l10Fairness.l0]
    rw [if_neg (by omega), List.drop_of_length_le (by omega)]
    rfl
  | succ d ih =>
    intro k i s h hk
    obtain ⟨k, rfl⟩ := round hk
    simp only [spec_l10Fairness.l0]
    rw [if_pos (by omega), if_pos (by omega), if_pos (by omega), drop_rd l i (by omega), wrap_id (x := (i : Int) + 1) (by omega) (by omega)]
    have := ih k (i + 1) (wrap64 (s + wrap64 (rd l (i : Int) * rd l (i : Int)))) (by omega) (by omega)
    simpa [sqW] using this
theorem l10F (l : List Int) (r : Int) (hn : l.length ≤ 1048576) (k : Nat) (hk : l.length < k) : spec_l10Fairness.f k l r = some (wrap64 (sumW l 0 * sumW l 0), wrap64 ((l.length : Int) * sqW l 0)) := by
  unfold spec_l10Fairness.f
  rw [l1Sum l hn k hk, Option.bind_some]
  have := l10F_l0 l (sumW l 0) r l hn l.length k 0 0 (by omega) hk
  simpa using this
theorem implF_l0 (l : List Int) (r : Int) (hn : l.length ≤ 1048576) (k0 : Nat) (hk0 : l.length < k0) : ∀ (d k i : Nat) (s : Int), i + d = l.length → d + l.length + 1 < k → impl_FairnessOf.l0 k s l (l.length : Int) (i : Int) l r = some (wrap64 (sumW l 0 * sumW l 0), wrap64 ((l.length : Int) * sqW (l.drop i) s), true) := by
  intro d
  induction d with
  | zero =>
    intro k i s h hk
    obtain ⟨k, rfl⟩ := round hk
    simp only [impl_FairnessOf.l0]
    rw [if_neg (by omega), List.drop_of_length_le (by omega), implSum l hn k (by omega)]
    rfl
  | succ d ih =>
    intro k i s h hk
    obtain ⟨k, rfl⟩ := round hk
    simp only [impl_FairnessOf.l0]
    rw [if_pos (by omega), if_pos (by omega), if_pos (by omega), drop_rd l i (by omega), wrap_id (x := (i : Int) + 1) (by omega) (by omega)]
    have := ih k (i + 1) (wrap64 (s + wrap64 (rd l (i : Int) * rd l (i : Int)))) (by omega) (by omega)
    simpa [sqW] using this
def fair (l : List Int) (r : Int) : Int × Int × Bool := if goodS l r = true then (wrap64 (sumW l 0 * sumW l 0), wrap64 ((l.length : Int) * sqW l 0), true) else (0, 0, false)
theorem impl_fair (l : List Int) (r : Int) (hn : l.length ≤ 1048576) (k : Nat) (hk : 2 * l.length + 1 < k) : impl_FairnessOf.f k l r = some (fair l r) := by
  unfold impl_FairnessOf.f fair
  rw [impl_good, Option.bind_some]
  by_cases h : goodS l r = true
  · rw [if_pos h, if_pos h]
    have := implF_l0 l r hn k (by omega) l.length k 0 0 (by omega) (by omega)
    simpa using this
  · rw [if_neg h, if_neg h]
theorem spec_fair (l : List Int) (r : Int) (hn : l.length ≤ 1048576) (k : Nat) (hk : l.length < k) : spec_FairnessOf.f k l r = some (fair l r) := by
  unfold spec_FairnessOf.f fair
  rw [spec_good l r hn k hk, Option.bind_some]
  by_cases h : goodS l r = true
  · rw [if_pos h, if_pos h, l10F l r hn k hk]
    rfl
  · rw [if_neg h, if_neg h]

end Go.Proofs.Ytadfjldepombnaa.Pure
