import Derived.Test.YtadfjldepombnaaQFnExactFairnessOf
import Derived.Test.YtadfjldepombnaaBFair
namespace Go.Proofs.Ytadfjldepombnaa.Pure
open Go.RowKit Go.Proofs.Ytadfjldepombnaa.P Go.Proofs.YtadfjldepombnaaW.PrintWords Go.Proofs.YtadfjldepombnaaW.PrintLast Go.Proofs.Ytadfjldepombnaa.Opn
set_option linter.unusedVariables false
set_option linter.unusedSimpArgs false

theorem FnExactFairnessOf : laws_FnExactFairnessOf.Pure := by
  intro l r hl _
  by_cases hn : l.length ≤ 1048576
  · refine ⟨2 * l.length + 3, ?_⟩
    unfold laws_FnExactFairnessOf.f
    rw [szShares_ok l r _ (by omega) (by omega) (by omega), Option.bind_some, if_neg (by omega)]
    simp only [toShares l r hn (2 * l.length + 3) (by omega), Option.bind_some, spec_fair l r hn (2 * l.length + 3) (by omega), impl_fair l r hn (2 * l.length + 3) (by omega), laws_FnExactFairnessOf.j0, toShares l r hn (2 * l.length + 2) (by omega), eqShares l r l r hn (2 * l.length + 2) (by omega)]
    simp
  · refine ⟨0, ?_⟩
    unfold laws_FnExactFairnessOf.f
    rw [szShares_big l r _ (by omega) (by omega) hl.1 (by omega), Option.bind_some, if_pos (by omega)]

end Go.Proofs.Ytadfjldepombnaa.Pure
