import Derived.Test.YtfmkdajgadfgpaaPf5
import Derived.Test.YtfmkdajgadfgpaaTys
namespace Go.Proofs.Ytfmkdajgadfgpaa.P
open Go.RowKit Go.Proofs.YtfmkdajgadfgpaaW.PrintWords Go.Proofs.YtfmkdajgadfgpaaW.PrintLast Go.Proofs.YtfmkdajgadfgpaaW.PrintMore Go.Proofs.Ytfmkdajgadfgpaa.Opn
set_option linter.unusedVariables false

def laws_FnExactWaitOf.Pure : Prop := ∀ (a0_0 : Int) (a0_1 : Int) (a0_2 : Int) (a0_3 : Int), wfI a0_0 → wfI a0_1 → wfI a0_2 → wfI a0_3 → laws_FnExactWaitOf.f a0_0 a0_1 a0_2 a0_3 = some true

end Go.Proofs.Ytfmkdajgadfgpaa.P
