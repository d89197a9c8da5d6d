import Derived.Test.YteookggoanjpaaaQFnExactPartsOf
import Derived.Test.YteookggoanjpaaaBParts
namespace Go.Proofs.Yteookggoanjpaaa.Pure
open Go.RowKit Go.Proofs.Yteookggoanjpaaa.P Go.Proofs.YteookggoanjpaaaW.PrintWords Go.Proofs.YteookggoanjpaaaW.PrintLast Go.Proofs.Yteookggoanjpaaa.Opn
set_option linter.unusedVariables false
set_option linter.unusedSimpArgs false

theorem FnExactPartsOf : laws_FnExactPartsOf.Pure := by
  intro a t _ ht
  obtain ⟨k, hk⟩ : ∃ k : Nat, 100 < k := ⟨101, by omega⟩
  refine ⟨k + 1 + 1, ?_⟩
  obtain ⟨c, b, h1, hc⟩ := parts_some a t (k + 1) (by omega)
  have h2 := impl_PartsOf.mono a t (k + 1) _ h1
  unfold laws_FnExactPartsOf.f
  by_cases hs : (t.size : Int) > 1048576
  · rw [if_pos hs]
  · rw [if_neg hs, parts_eq, h2]
    simp only [Option.bind_some, eqPartS c (by omega) (k + 1 + 1) (by omega), if_true, bne_self_eq_false]
    rw [laws_FnExactPartsOf.j0]
    simp only [Bool.false_eq_true, if_false, markPartS c 1 (by omega) (by omega) (k + 1) (by omega), Option.bind_some, heldPartS c.length 1 (by omega) (by omega) (k + 1) (by omega), h1, eqPartS c (by omega) (k + 1) (by omega), if_true, bne_self_eq_false]
    rw [if_neg (by omega), laws_FnExactPartsOf.j1]
    simp only [Bool.false_eq_true, if_false, heldPartS c.length 1 (by omega) (by omega) k (by omega), Option.bind_some, if_true]
    rw [if_neg (by omega)]

end Go.Proofs.Yteookggoanjpaaa.Pure
