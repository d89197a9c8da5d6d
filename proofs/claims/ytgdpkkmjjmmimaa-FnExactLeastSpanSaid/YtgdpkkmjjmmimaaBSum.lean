import Derived.Test.YtgdpkkmjjmmimaaBL
import Derived.Test.YtgdpkkmjjmmimaaPf44
import Derived.Test.YtgdpkkmjjmmimaaPf46
namespace Go.Proofs.Ytgdpkkmjjmmimaa.Pure
open Go.RowKit Go.Proofs.Ytgdpkkmjjmmimaa.P Go.Proofs.YtgdpkkmjjmmimaaW.PrintWords Go.Proofs.YtgdpkkmjjmmimaaW.PrintLast Go.Proofs.Ytgdpkkmjjmmimaa.Opn
set_option linter.unusedVariables false
set_option linter.unusedSimpArgs false

def sumW (l : List Int) (s : Int) : Int := l.foldl (fun a x => wrap64 (a + x)) s
theorem l1Sum_l0 (l : List Int) (hn : l.length ≤ 1048576) : ∀ (d k i : Nat) (s : Int), i + d = l.length → d < k → spec_l1Sum.l0 k s l (l.length : Int) (i : Int) = some (sumW (l.drop i) s) := by
  intro d
  induction d with
  | zero =>
    intro k i s h hk
    obtain ⟨k, rfl⟩ := round hk
    simp only [spec_l1Sum.l0]
    rw [if_neg (by omega), List.drop_of_length_le (by omega)]
    rfl
  | succ d ih =>
    intro k i s h hk
    obtain ⟨k, rfl⟩ := round hk
    simp only [spec_l1Sum.l0]
    rw [if_pos (by omega), if_pos (by omega), if_pos (by omega), drop_rd l i (by omega), wrap_id (x := (i : Int) + 1) (by omega) (by omega)]
    have := ih k (i + 1) (wrap64 (s + rd l (i : Int))) (by omega) (by omega)
    simpa [sumW] using this
theorem l1Sum (l : List Int) (hn : l.length ≤ 1048576) (k : Nat) (hk : l.length < k) : spec_l1Sum.f k l = some (sumW l 0) := by
  unfold spec_l1Sum.f
  have := l1Sum_l0 l hn l.length k 0 0 (by omega) hk
  simpa using this
theorem impl_sum_l0 : ∀ (k : Nat) (a : Int) (l : List Int) (n i : Int), impl_sum.l0 k a l n i = spec_l1Sum.l0 k a l n i := by
  intro k
  induction k with
  | zero => intros; rfl
  | succ k ih => intros; simp only [impl_sum.l0, spec_l1Sum.l0, ih]
theorem implSum (l : List Int) (hn : l.length ≤ 1048576) (k : Nat) (hk : l.length < k) : impl_sum.f k l = some (sumW l 0) := by
  unfold impl_sum.f
  rw [impl_sum_l0]
  exact l1Sum l hn k hk

end Go.Proofs.Ytgdpkkmjjmmimaa.Pure
