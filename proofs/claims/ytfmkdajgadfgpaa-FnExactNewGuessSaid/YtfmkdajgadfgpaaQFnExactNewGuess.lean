import Derived.Test.YtfmkdajgadfgpaaPf4
import Derived.Test.YtfmkdajgadfgpaaTys
namespace Go.Proofs.Ytfmkdajgadfgpaa.P
open Go.RowKit Go.Proofs.YtfmkdajgadfgpaaW.PrintWords Go.Proofs.YtfmkdajgadfgpaaW.PrintLast Go.Proofs.YtfmkdajgadfgpaaW.PrintMore Go.Proofs.Ytfmkdajgadfgpaa.Opn
set_option linter.unusedVariables false

def laws_FnExactNewGuess.Pure : Prop := ∀ (a0 : Int), wfI a0 → laws_FnExactNewGuess.f a0 = some true

end Go.Proofs.Ytfmkdajgadfgpaa.P
