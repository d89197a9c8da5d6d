import Derived.Test.YtfbiekobmgclhaaBL
import Derived.Test.YtfbiekobmgclhaaPf31
namespace Go.Proofs.Ytfbiekobmgclhaa.Pure
open Go.RowKit Go.Proofs.Ytfbiekobmgclhaa.P Go.Proofs.YtfbiekobmgclhaaW.PrintWords Go.Proofs.YtfbiekobmgclhaaW.PrintLast Go.Proofs.Ytfbiekobmgclhaa.Opn
set_option linter.unusedVariables false
set_option linter.unusedSimpArgs false

theorem szIntS (l : List Int) (a : Int) (ha : 0 ≤ a) (ha2 : a ≤ 1048576) (hl : l.length ≤ 9223372036854775807) : laws_szIntS.f l a = some (if (l.length : Int) ≤ a then a - l.length else -1) := by
  unfold laws_szIntS.f
  rw [wrap_id (by omega) (by omega)]
  by_cases h : (l.length : Int) ≤ a
  · rw [if_neg (by omega), if_pos h]
  · rw [if_pos (by omega), if_neg h]

end Go.Proofs.Ytfbiekobmgclhaa.Pure
