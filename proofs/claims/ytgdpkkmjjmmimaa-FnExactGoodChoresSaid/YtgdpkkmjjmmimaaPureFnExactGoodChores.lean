import Derived.Test.YtgdpkkmjjmmimaaQFnExactGoodChores
import Derived.Test.YtgdpkkmjjmmimaaBCh
namespace Go.Proofs.Ytgdpkkmjjmmimaa.Pure
open Go.RowKit Go.Proofs.Ytgdpkkmjjmmimaa.P Go.Proofs.YtgdpkkmjjmmimaaW.PrintWords Go.Proofs.YtgdpkkmjjmmimaaW.PrintLast Go.Proofs.Ytgdpkkmjjmmimaa.Opn
set_option linter.unusedVariables false
set_option linter.unusedSimpArgs false

theorem FnExactGoodChores : laws_FnExactGoodChores.Pure := by
  intro l a hl _
  by_cases hn : l.length ≤ 1048576
  · refine ⟨l.length + 1, ?_⟩
    have hk : l.length < l.length + 1 := by omega
    unfold laws_FnExactGoodChores.f
    rw [if_neg (by omega)]
    simp only [toIntS l hn _ hk, Option.bind_some, spec_goodC l a hn _ hk, impl_goodC, eqIntS l l hn _ hk]
    simp
  · refine ⟨0, ?_⟩
    unfold laws_FnExactGoodChores.f
    rw [if_pos (by omega)]

end Go.Proofs.Ytgdpkkmjjmmimaa.Pure
