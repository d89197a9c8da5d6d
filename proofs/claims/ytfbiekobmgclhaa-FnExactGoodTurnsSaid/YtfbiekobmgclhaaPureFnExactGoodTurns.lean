import Derived.Test.YtfbiekobmgclhaaQFnExactGoodTurns
import Derived.Test.YtfbiekobmgclhaaBTurns
namespace Go.Proofs.Ytfbiekobmgclhaa.Pure
open Go.RowKit Go.Proofs.Ytfbiekobmgclhaa.P Go.Proofs.YtfbiekobmgclhaaW.PrintWords Go.Proofs.YtfbiekobmgclhaaW.PrintLast Go.Proofs.Ytfbiekobmgclhaa.Opn
set_option linter.unusedVariables false
set_option linter.unusedSimpArgs false

theorem FnExactGoodTurns : laws_FnExactGoodTurns.Pure := by
  intro l0 l1 l2 l3 a h0 h1 h2 h3 _
  obtain ⟨k, hk⟩ : ∃ k : Nat, 3000000 < k := ⟨3000001, by omega⟩
  refine ⟨k, ?_⟩
  obtain ⟨v, e, hv⟩ := szTurns l0 l1 l2 l3 a h0.1 h1.1 (fun q hq => (h1.2 q hq).1) h2.1 h3.1 k (by omega)
  unfold laws_FnExactGoodTurns.f
  rw [e, Option.bind_some]
  by_cases hs : v < 0
  · rw [if_pos hs]
  · obtain ⟨g0, g1, gq, g2, g3⟩ := hv (by omega)
    rw [if_neg hs]
    simp only [toTurns l0 l1 l2 l3 a g0 g1 gq g2 g3 k (by omega), Option.bind_some, spec_goodTu l0 l1 l2 l3 a g0 g1 gq g2 g3 k (by omega), impl_goodTu l0 l1 l2 l3 a g1 k (by omega), eqTurns l0 l1 l2 l3 a g0 g1 gq g2 g3 k (by omega)]
    simp

end Go.Proofs.Ytfbiekobmgclhaa.Pure
