import Derived.Test.YtadfjldepombnaaQFnExactGoodShares
import Derived.Test.YtadfjldepombnaaBSh
namespace Go.Proofs.Ytadfjldepombnaa.Pure
open Go.RowKit Go.Proofs.Ytadfjldepombnaa.P Go.Proofs.YtadfjldepombnaaW.PrintWords Go.Proofs.YtadfjldepombnaaW.PrintLast Go.Proofs.Ytadfjldepombnaa.Opn
set_option linter.unusedVariables false
set_option linter.unusedSimpArgs false

theorem FnExactGoodShares : laws_FnExactGoodShares.Pure := by
  intro l r hl _
  by_cases hn : l.length ≤ 1048576
  · refine ⟨l.length + 1, ?_⟩
    have hk : l.length < l.length + 1 := by omega
    unfold laws_FnExactGoodShares.f
    rw [szShares_ok l r _ (by omega) (by omega) (by omega), Option.bind_some, if_neg (by omega)]
    simp only [toShares l r hn _ hk, Option.bind_some, spec_good l r hn _ hk, impl_good, eqShares l r l r hn _ hk]
    simp
  · refine ⟨0, ?_⟩
    unfold laws_FnExactGoodShares.f
    rw [szShares_big l r _ (by omega) (by omega) hl.1 (by omega), Option.bind_some, if_pos (by omega)]

end Go.Proofs.Ytadfjldepombnaa.Pure
