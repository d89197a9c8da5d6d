import Derived.Test.YtlmokpmdodoihaaQFnExactNewGreet
namespace Go.Proofs.Ytlmokpmdodoihaa.Pure
open Go.RowKit Go.Proofs.Ytlmokpmdodoihaa.P Go.Proofs.YtlmokpmdodoihaaW.PrintWords Go.Proofs.YtlmokpmdodoihaaW.PrintLast Go.Proofs.Ytlmokpmdodoihaa.Opn
set_option linter.unusedVariables false
set_option linter.unusedSimpArgs false

theorem FnExactNewGreet : laws_FnExactNewGreet.Pure := by
  exact ⟨2, by rfl⟩

end Go.Proofs.Ytlmokpmdodoihaa.Pure
