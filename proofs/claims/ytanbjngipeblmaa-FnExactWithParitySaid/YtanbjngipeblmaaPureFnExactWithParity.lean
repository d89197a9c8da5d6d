import Derived.Test.YtanbjngipeblmaaQFnExactWithParity
import Derived.Test.YtanbjngipeblmaaBParity
import Derived.Test.YtanbjngipeblmaaBMarkS
namespace Go.Proofs.Ytanbjngipeblmaa.Pure
open Go.RowKit Go.Proofs.Ytanbjngipeblmaa.P Go.Proofs.YtanbjngipeblmaaW.PrintWords Go.Proofs.YtanbjngipeblmaaW.PrintLast Go.Proofs.Ytanbjngipeblmaa.Opn
set_option linter.unusedVariables false
set_option linter.unusedSimpArgs false

theorem both_with (l : List ByteArray) (hn : l.length ≤ 1048576) : ∃ q : List ByteArray × Bool, q.1.length ≤ 8 ∧ ∀ k, l.length + 1000 < k → spec_WithParity.f k l = some q ∧ impl_WithParity.f k l = some q := by
  by_cases hp : areP l = true
  · obtain ⟨h1, h2, h3, h4⟩ := areP_facts l hp
    have hm : l.length * ((rdOf ByteArray.empty l 0).size + 3) ≤ 8 * 19 := Nat.mul_le_mul h2 (by omega)
    by_cases h8 : (l.length : Int) = 8
    · refine ⟨([], false), by simp, fun k hk => ?_⟩
      obtain ⟨k, rfl⟩ := round (d := 0) (k := k) (by omega)
      unfold spec_WithParity.f impl_WithParity.f
      rw [spec_pieces l hn (k + 1) (by omega), impl_pieces]
      simp only [Option.bind_some]
      rw [if_pos hp, if_pos hp, if_pos h8, impl_WithParity.j0, if_pos (by rw [h8]; rfl)]
      exact ⟨rfl, rfl⟩
    · obtain ⟨t, ht⟩ := xor_some l _ (by omega) (by omega) h4 1000 (by omega)
      refine ⟨(l ++ [t], true), by simp only [List.length_append, List.length_cons, List.length_nil]; omega, fun k hk => ?_⟩
      obtain ⟨k, rfl⟩ := round (d := 0) (k := k) (by omega)
      have hmono : ∀ d, spec_l12Xor.f (1000 + d) l ((rdOf ByteArray.empty l 0).size : Int) = some t := by
        intro d
        induction d with
        | zero => exact ht
        | succ d ih => exact spec_l12Xor.mono _ _ _ _ ih
      have ht1 : spec_l12Xor.f (k + 1) l ((rdOf ByteArray.empty l 0).size : Int) = some t := by
        have := hmono (k + 1 - 1000)
        rw [show 1000 + (k + 1 - 1000) = k + 1 by omega] at this
        exact this
      have ht2 : spec_l12Xor.f k l ((rdOf ByteArray.empty l 0).size : Int) = some t := by
        have := hmono (k - 1000)
        rw [show 1000 + (k - 1000) = k by omega] at this
        exact this
      unfold spec_WithParity.f impl_WithParity.f
      rw [spec_pieces l hn (k + 1) (by omega), impl_pieces]
      simp only [Option.bind_some]
      rw [if_pos hp, if_pos hp, if_neg h8]
      refine ⟨?_, ?_⟩
      · simp only [List.nil_append, List.length_nil, Nat.zero_add]
        rw [if_pos (by omega), if_pos (by omega), ht1, Option.bind_some, if_pos (by omega)]
      · rw [impl_WithParity.j0, if_neg (by simpa using h8)]
        unfold slices_Clone_string_string.f
        rw [if_pos (by omega), Option.bind_some, if_pos (by omega), par_same, ht2, Option.bind_some, if_pos (by omega)]
  · refine ⟨([], false), by simp, fun k hk => ?_⟩
    obtain ⟨k, rfl⟩ := round (d := 0) (k := k) (by omega)
    unfold spec_WithParity.f impl_WithParity.f
    rw [spec_pieces l hn (k + 1) (by omega), impl_pieces]
    simp only [Option.bind_some]
    rw [if_neg hp, if_neg hp, impl_WithParity.j0, if_pos rfl]
    exact ⟨rfl, rfl⟩
theorem FnExactWithParity : laws_FnExactWithParity.Pure := by
  intro l hw
  by_cases hs : (l.length : Int) + tot l ≤ 1048576
  · obtain ⟨k, hk⟩ : ∃ k : Nat, 2500000 < k := ⟨2500001, by omega⟩
    refine ⟨k + 1 + 1 + 1, ?_⟩
    have g : l.length ≤ 1048576 := by omega
    obtain ⟨r, hr, hr0⟩ := szStringS_ok l hw.2 hs (k + 1 + 1 + 1) (by omega)
    obtain ⟨⟨q1, q2⟩, hq, hb⟩ := both_with l g
    dsimp only at hq
    have g2 : q1.length ≤ 1048576 := by omega
    unfold laws_FnExactWithParity.f
    rw [hr, Option.bind_some, if_neg (by omega)]
    simp only [toStringS l g (k + 1 + 1 + 1) (by omega), Option.bind_some, (hb (k + 1 + 1 + 1) (by omega)).1, (hb (k + 1 + 1 + 1) (by omega)).2, eqStringS q1 g2 (k + 1 + 1 + 1) (by omega), if_true, bne_self_eq_false]
    rw [laws_FnExactWithParity.j0]
    simp only [Bool.false_eq_true, if_false, toStringS l g (k + 1 + 1) (by omega), Option.bind_some, eqStringS l g (k + 1 + 1) (by omega), if_true]
    rw [markStringS l 1 (by omega) (by omega) (k + 1 + 1) (by omega)]
    simp only [Option.bind_some]
    rw [if_neg (by omega)]
    simp only [eqStringS q1 g2 (k + 1 + 1) (by omega), Option.bind_some, if_true, bne_self_eq_false]
    rw [laws_FnExactWithParity.j1]
    simp only [Bool.false_eq_true, if_false]
    rw [markStringS q1 1 (by omega) (by omega) (k + 1) (by omega)]
    simp only [Option.bind_some]
    rw [heldStringS q1.length 1 (by omega) (by omega) (k + 1) (by omega)]
    simp only [Option.bind_some]
    rw [if_neg (by omega)]
    simp only [if_true]
    simp only [toStringS l g (k + 1) (by omega), Option.bind_some, (hb (k + 1) (by omega)).2, eqStringS q1 g2 (k + 1) (by omega), if_true, bne_self_eq_false]
    rw [laws_FnExactWithParity.j2]
    simp only [Bool.false_eq_true, if_false]
    rw [heldStringS q1.length 1 (by omega) (by omega) k (by omega)]
    simp only [Option.bind_some]
    rw [if_neg (by omega)]
    simp only [if_true]
  · obtain ⟨k, hk⟩ := szStringS_big l hw.2 hw.1 hs
    refine ⟨k, ?_⟩
    unfold laws_FnExactWithParity.f
    rw [hk, Option.bind_some, if_pos (by omega)]

end Go.Proofs.Ytanbjngipeblmaa.Pure
