import Derived.Test.YtanbjngipeblmaaQFnExactParityOf
import Derived.Test.YtanbjngipeblmaaBParity
namespace Go.Proofs.Ytanbjngipeblmaa.Pure
open Go.RowKit Go.Proofs.Ytanbjngipeblmaa.P Go.Proofs.YtanbjngipeblmaaW.PrintWords Go.Proofs.YtanbjngipeblmaaW.PrintLast Go.Proofs.Ytanbjngipeblmaa.Opn
set_option linter.unusedVariables false
set_option linter.unusedSimpArgs false

theorem both_par (l : List ByteArray) (hn : l.length ≤ 1048576) (k : Nat) (hk : l.length + 1000 < k) : ∃ q, spec_ParityOf.f k l = some q ∧ impl_ParityOf.f k l = some q := by
  unfold spec_ParityOf.f impl_ParityOf.f
  rw [spec_pieces l hn k (by omega), impl_pieces, Option.bind_some, Option.bind_some]
  by_cases hp : areP l = true
  · obtain ⟨h1, h2, h3, h4⟩ := areP_facts l hp
    have hm : l.length * ((rdOf ByteArray.empty l 0).size + 3) ≤ 8 * 19 := Nat.mul_le_mul h2 (by omega)
    obtain ⟨t, ht⟩ := xor_some l _ (by omega) (by omega) h4 k (by omega)
    rw [if_pos hp, if_pos hp, if_pos (by omega), if_pos (by omega), par_same, ht]
    exact ⟨_, rfl, rfl⟩
  · rw [if_neg hp, if_neg hp]
    exact ⟨_, rfl, rfl⟩
theorem FnExactParityOf : laws_FnExactParityOf.Pure := by
  intro l hw
  by_cases hs : (l.length : Int) + tot l ≤ 1048576
  · obtain ⟨k, hk⟩ : ∃ k : Nat, 2500000 < k := ⟨2500001, by omega⟩
    refine ⟨k + 1, ?_⟩
    have g : l.length ≤ 1048576 := by omega
    obtain ⟨r, hr, hr0⟩ := szStringS_ok l hw.2 hs (k + 1) (by omega)
    obtain ⟨q, h1, h2⟩ := both_par l g (k + 1) (by omega)
    unfold laws_FnExactParityOf.f
    rw [hr, Option.bind_some, if_neg (by omega)]
    simp only [toStringS l g (k + 1) (by omega), Option.bind_some, h1, h2, if_true, bne_self_eq_false]
    rw [laws_FnExactParityOf.j0]
    simp only [Bool.false_eq_true, if_false, toStringS l g k (by omega), Option.bind_some, eqStringS l g k (by omega), if_true]
  · obtain ⟨k, hk⟩ := szStringS_big l hw.2 hw.1 hs
    refine ⟨k, ?_⟩
    unfold laws_FnExactParityOf.f
    rw [hk, Option.bind_some, if_pos (by omega)]

end Go.Proofs.Ytanbjngipeblmaa.Pure
