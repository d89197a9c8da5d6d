import Derived.Test.YtanbjngipeblmaaQFnExactMendPiece
import Derived.Test.YtanbjngipeblmaaBParity
namespace Go.Proofs.Ytanbjngipeblmaa.Pure
open Go.RowKit Go.Proofs.Ytanbjngipeblmaa.P Go.Proofs.YtanbjngipeblmaaW.PrintWords Go.Proofs.YtanbjngipeblmaaW.PrintLast Go.Proofs.Ytanbjngipeblmaa.Opn
set_option linter.unusedVariables false
set_option linter.unusedSimpArgs false

theorem inP (a : Int) (l : List ByteArray) (hn : l.length ≤ 1048576) : impl_in.f a 0 (wrap64 ((l.length : Int) - 1)) = some (decide (0 ≤ a ∧ a < l.length)) := by
  rw [wrap_id (by omega) (by omega), impl_in_]
  congr 1
  by_cases h : 0 ≤ a ∧ a < l.length
  · rw [decide_eq_true (by omega), decide_eq_true h]
  · rw [decide_eq_false (by omega), decide_eq_false h]
theorem both_mend (l : List ByteArray) (a : Int) (hn : l.length ≤ 1048576) (k : Nat) (hk : l.length + 1000 < k) : ∃ q, spec_MendPiece.f (k + 1) l a = some q ∧ impl_MendPiece.f (k + 1) l a = some q := by
  unfold spec_MendPiece.f impl_MendPiece.f
  rw [spec_pieces l hn (k + 1) (by omega), impl_pieces]
  simp only [Option.bind_some]
  by_cases hp : areP l = true
  · obtain ⟨h1, h2, h3, h4⟩ := areP_facts l hp
    rw [if_pos hp, if_pos hp, inP a l hn, Option.bind_some, impl_MendPiece.j0]
    by_cases ha : a < 0
    · rw [if_pos ha, decide_eq_false (by omega), if_pos (by decide)]
      exact ⟨_, rfl, rfl⟩
    · rw [if_neg ha]
      by_cases hb : a ≥ (l.length : Int)
      · rw [if_pos hb, decide_eq_false (by omega), if_pos (by decide)]
        exact ⟨_, rfl, rfl⟩
      · rw [if_neg hb, decide_eq_true (by omega), if_neg (show ¬ ((!true) = true) by decide)]
        obtain ⟨i, rfl⟩ := Int.eq_ofNat_of_zero_le (show 0 ≤ a by omega)
        rw [wrap_id (x := (i : Int) + 1) (by omega) (by omega), if_pos (show 0 ≤ (i : Int) by omega), if_pos (show (i : Int) ≤ l.length by omega), if_pos (show 0 ≤ (i : Int) + 1 by omega), if_pos (show (i : Int) + 1 ≤ l.length by omega)]
        simp only [Option.bind_some, List.nil_append, List.length_nil, Nat.zero_add, Int.toNat_natCast]
        have e : ((i : Int) + 1).toNat = i + 1 := by omega
        rw [e]
        unfold slices_Concat_string_string.f
        have ef : [l.take i, l.drop (i + 1)].flatten = l.take i ++ l.drop (i + 1) := by simp
        have el : (l.take i ++ l.drop (i + 1)).length ≤ 8 := by
          rw [List.length_append, List.length_take, List.length_drop]
          omega
        have hm : (l.take i ++ l.drop (i + 1)).length * ((rdOf ByteArray.empty l 0).size + 3) ≤ 8 * 19 := Nat.mul_le_mul el (by omega)
        have hs : ∀ x, x ∈ l.take i ++ l.drop (i + 1) → x.size = (rdOf ByteArray.empty l 0).size := by
          intro x hx
          rw [List.mem_append] at hx
          rcases hx with hx | hx
          · exact h4 x (List.mem_of_mem_take hx)
          · exact h4 x (List.mem_of_mem_drop hx)
        obtain ⟨t, ht⟩ := xor_some _ _ (by omega) (by omega) hs (k + 1) (by omega)
        obtain ⟨t', ht'⟩ := xor_some _ _ (by omega) (by omega) hs k (by omega)
        have := spec_l12Xor.mono _ _ _ _ ht'
        rw [ht] at this
        cases this
        have l1 : (l.take i).length ≤ 8 := by rw [List.length_take]; omega
        have l2 : (l.drop (i + 1)).length ≤ 8 := by rw [List.length_drop]; omega
        rw [ef, ht, if_pos (show (l.take i ++ l.drop (i + 1)).length ≤ 1099511627776 by omega)]
        simp only [Option.bind_some]
        rw [par_same, ht']
        repeat rw [if_pos (by omega)]
        exact ⟨_, rfl, rfl⟩
  · rw [if_neg hp, if_neg hp, impl_MendPiece.j0, if_pos rfl]
    exact ⟨_, rfl, rfl⟩
theorem FnExactMendPiece : laws_FnExactMendPiece.Pure := by
  intro l a hw _
  by_cases hs : (l.length : Int) + tot l ≤ 1048576
  · obtain ⟨k, hk⟩ : ∃ k : Nat, 2500000 < k := ⟨2500001, by omega⟩
    refine ⟨k + 1, ?_⟩
    have g : l.length ≤ 1048576 := by omega
    obtain ⟨r, hr, hr0⟩ := szStringS_ok l hw.2 hs (k + 1) (by omega)
    obtain ⟨q, h1, h2⟩ := both_mend l a g k (by omega)
    unfold laws_FnExactMendPiece.f
    rw [hr, Option.bind_some, if_neg (by omega)]
    simp only [toStringS l g (k + 1) (by omega), Option.bind_some, h1, h2, if_true, bne_self_eq_false]
    rw [laws_FnExactMendPiece.j0]
    simp only [Bool.false_eq_true, if_false, toStringS l g k (by omega), Option.bind_some, eqStringS l g k (by omega), if_true]
  · obtain ⟨k, hk⟩ := szStringS_big l hw.2 hw.1 hs
    refine ⟨k, ?_⟩
    unfold laws_FnExactMendPiece.f
    rw [hk, Option.bind_some, if_pos (by omega)]

end Go.Proofs.Ytanbjngipeblmaa.Pure
