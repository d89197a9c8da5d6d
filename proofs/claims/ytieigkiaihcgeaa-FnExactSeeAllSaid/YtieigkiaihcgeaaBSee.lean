import Derived.Test.YtieigkiaihcgeaaBSeen
import Derived.Test.YtieigkiaihcgeaaPf20
import Derived.Test.YtieigkiaihcgeaaPf24
import Derived.Test.YtieigkiaihcgeaaPf25
import Derived.Test.YtieigkiaihcgeaaASee
namespace Go.Proofs.Ytieigkiaihcgeaa.Pure
open Go.RowKit Go.Proofs.Ytieigkiaihcgeaa.P Go.Proofs.YtieigkiaihcgeaaW.PrintWords Go.Proofs.YtieigkiaihcgeaaW.PrintLast Go.Proofs.Ytieigkiaihcgeaa.Opn
set_option linter.unusedVariables false
set_option linter.unusedSimpArgs false

def seeV (a b c d : Int) (x : Sn) : Int × Int × Int × Int := if x.f2 = true then (a, b, c, mn (wrap64 (d + 1)) 6) else (if x.f1 = true then (a, b, mn (wrap64 (c + 1)) 1000, d) else (wrap64 (a + (wrap64 (x.f0 - (wrap64 (Int.tdiv a 8))))), wrap64 (b + (wrap64 ((mx (wrap64 (x.f0 - (wrap64 (Int.tdiv a 8)))) (wrap64 (-(wrap64 (x.f0 - (wrap64 (Int.tdiv a 8))))))) - (wrap64 (Int.tdiv b 4))))), mn (wrap64 (c + 1)) 1000, 0))
theorem impl_see (a b c d : Int) (x : Sn) : impl_Guess_see.f a b c d x.f0 x.f1 x.f2 = some (seeV a b c d x) := by
  unfold impl_Guess_see.f seeV
  split
  · rfl
  · split <;> rfl
theorem least_mn (a b : Int) : spec_l1Least.f a b = some (mn b a) := by
  unfold spec_l1Least.f mn
  split <;> rfl
theorem abs_mx (y : Int) : mx (wrap64 y) (wrap64 (-(wrap64 y))) = if wrap64 y < 0 then wrap64 (-(wrap64 y)) else wrap64 y := by
  unfold mx wrap64
  omega
theorem spec_see (a b c d : Int) (x : Sn) : spec_l9See.f a b c d x.f0 x.f1 x.f2 = some (seeV a b c d x) := by
  unfold spec_l9See.f seeV
  simp only [least_mn, Option.bind_some, abs_mx]
  split
  · rfl
  · split
    · rfl
    · split <;> rfl
theorem impl_new (a : Int) : impl_NewGuess.f a = spec_NewGuess.f a := rfl
theorem spec_new (a : Int) : ∃ g0 g1 g2 g3 g4, spec_NewGuess.f a = some (g0, g1, g2, g3, g4) := by
  unfold spec_NewGuess.f
  simp only [spec_in, Option.bind_some]
  split
  all_goals exact ⟨_, _, _, _, _, rfl⟩

end Go.Proofs.Ytieigkiaihcgeaa.Pure
