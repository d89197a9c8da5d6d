import Derived.Test.YtpicfpdpcbncmaaBInt
import Derived.Test.YtpicfpdpcbncmaaBAll
import Derived.Test.YtpicfpdpcbncmaaPf20
import Derived.Test.YtpicfpdpcbncmaaPf23
import Derived.Test.YtpicfpdpcbncmaaPf42
namespace Go.Proofs.Ytpicfpdpcbncmaa.Pure
open Go.RowKit Go.Proofs.Ytpicfpdpcbncmaa.P Go.Proofs.YtpicfpdpcbncmaaW.PrintWords Go.Proofs.YtpicfpdpcbncmaaW.PrintLast Go.Proofs.Ytpicfpdpcbncmaa.Opn
set_option linter.unusedVariables false
set_option linter.unusedSimpArgs false

def goodC (l : List Int) (a : Int) : Bool := decide ((l.length : Int) ≤ 8) && (l.all (fun x => decide (1 ≤ x ∧ x ≤ 50)) && decide (1 ≤ a ∧ a ≤ 4))
theorem any_inR (l : List Int) (lo hi : Int) : (!l.any (fun x => !inR lo hi x)) = l.all (fun x => decide (lo ≤ x ∧ x ≤ hi)) := by
  rw [List.all_eq_not_any_not]
  rfl
theorem impl_goodC (l : List Int) (a : Int) : impl_GoodChores.f l a = some (goodC l a) := by
  unfold impl_GoodChores.f goodC
  rw [any_inR]
  rfl
theorem spec_goodC (l : List Int) (a : Int) (hn : l.length ≤ 1048576) (k : Nat) (hk : l.length < k) : spec_GoodChores.f k l a = some (goodC l a) := by
  unfold spec_GoodChores.f goodC
  rw [l1All l 1 50 hn k hk]
  by_cases h : (l.length : Int) ≤ 8
  · rw [if_pos h]
    simp only [Option.bind_some, spec_in, h, decide_true, Bool.true_and]
    cases l.all (fun x => decide (1 ≤ x ∧ x ≤ 50)) <;> simp
  · rw [if_neg h]
    simp only [h, decide_false, Bool.false_and]
theorem goodC_fact {l : List Int} {a : Int} (h : goodC l a = true) : l.length ≤ 8 ∧ (∀ x ∈ l, 1 ≤ x ∧ x ≤ 50) ∧ 1 ≤ a ∧ a ≤ 4 := by
  unfold goodC at h
  simp only [Bool.and_eq_true, decide_eq_true_eq, List.all_eq_true] at h
  exact ⟨by omega, h.2.1, h.2.2⟩
theorem most_eq (a b : Int) : spec_l1Most.f a b = some (mx b a) := by
  unfold spec_l1Most.f mx
  by_cases h : a > b
  · rw [if_pos h, if_pos (by omega)]
  · rw [if_neg h, if_neg (by omega)]
theorem rd_mem (l : List Int) (i : Nat) (h : i < l.length) : rd l (i : Int) ∈ l := by
  rw [rd_nat l i h]
  exact List.getElem_mem h

end Go.Proofs.Ytpicfpdpcbncmaa.Pure
