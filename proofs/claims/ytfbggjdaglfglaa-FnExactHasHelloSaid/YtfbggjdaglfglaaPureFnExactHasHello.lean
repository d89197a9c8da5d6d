import Derived.Test.YtfbggjdaglfglaaQFnExactHasHello
import Derived.Test.YtfbggjdaglfglaaBHelloS
import Derived.Test.YtfbggjdaglfglaaPf8
import Derived.Test.YtfbggjdaglfglaaPf11
namespace Go.Proofs.Ytfbggjdaglfglaa.Pure
open Go.RowKit Go.Proofs.Ytfbggjdaglfglaa.P Go.Proofs.YtfbggjdaglfglaaW.PrintWords Go.Proofs.YtfbggjdaglfglaaW.PrintLast Go.Proofs.Ytfbggjdaglfglaa.Opn
set_option linter.unusedVariables false
set_option linter.unusedSimpArgs false

def hasH (l : List S30) (a b c : Int) : Bool := l.any fun x => a == x.f0 && (b == x.f1 && (c == x.f2))
theorem spec_l0 (a b c : Int) (l : List S30) (hn : l.length ≤ 300) : ∀ (d k i : Nat), i + d = l.length → d < k → spec_HasHello.l0 k l (l.length : Int) (i : Int) a b c = some (hasH (l.drop i) a b c, true) := by
  intro d
  induction d with
  | zero =>
    intro k i h hk
    obtain ⟨k, rfl⟩ := round hk
    simp only [spec_HasHello.l0]
    rw [if_neg (by omega), List.drop_of_length_le (by omega)]
    rfl
  | succ d ih =>
    intro k i h hk
    obtain ⟨k, rfl⟩ := round hk
    simp only [spec_HasHello.l0]
    rw [if_pos (by omega), if_pos (by omega), if_pos (by omega), drop_rdHello l i (by omega)]
    unfold hasH
    rw [List.any_cons]
    by_cases hc : (a == (rd_T30 l (i : Int)).f0 && (b == (rd_T30 l (i : Int)).f1 && (c == (rd_T30 l (i : Int)).f2))) = true
    · rw [if_pos hc, hc]
      rfl
    · rw [if_neg hc, Bool.not_eq_true] at *
      rw [hc, wrap_id (by omega) (by omega)]
      have := ih k (i + 1) (by omega) (by omega)
      simpa [hasH] using this
theorem spec_has (a b c : Int) (l : List S30) (k : Nat) (hk : 300 < k) : spec_HasHello.f k l a b c = some (if (l.length : Int) > 300 then (false, false) else (hasH l a b c, true)) := by
  unfold spec_HasHello.f
  by_cases h : (l.length : Int) > 300
  · rw [if_pos h, if_pos h]
  · rw [if_neg h, if_neg h]
    have := spec_l0 a b c l (by omega) l.length k 0 (by omega) (by omega)
    simpa using this
theorem idx_l0 (a b c : Int) (l : List S30) (hn : l.length ≤ 300) : ∀ (d k i : Nat), i + d = l.length → d < k → ∃ r, impl_Hello_38.l0 k l (l.length : Int) (i : Int) a b c = some r ∧ decide (r ≥ 0) = hasH (l.drop i) a b c := by
  intro d
  induction d with
  | zero =>
    intro k i h hk
    obtain ⟨k, rfl⟩ := round hk
    refine ⟨-1, ?_, ?_⟩
    · simp only [impl_Hello_38.l0]
      rw [if_neg (by omega)]
    · rw [List.drop_of_length_le (by omega)]
      rfl
  | succ d ih =>
    intro k i h hk
    obtain ⟨k, rfl⟩ := round hk
    simp only [impl_Hello_38.l0]
    rw [if_pos (by omega), if_pos (by omega), if_pos (by omega), drop_rdHello l i (by omega)]
    unfold hasH
    rw [List.any_cons]
    by_cases hc : (a == (rd_T30 l (i : Int)).f0 && (b == (rd_T30 l (i : Int)).f1 && (c == (rd_T30 l (i : Int)).f2))) = true
    · rw [if_pos hc, hc]
      exact ⟨i, rfl, by simp⟩
    · rw [if_neg hc, Bool.not_eq_true] at *
      rw [hc, wrap_id (by omega) (by omega)]
      have := ih k (i + 1) (by omega) (by omega)
      simpa [hasH] using this
theorem impl_has (a b c : Int) (l : List S30) (k : Nat) (hk : 300 < k) : impl_HasHello.f k l a b c = some (if (l.length : Int) > 300 then (false, false) else (hasH l a b c, true)) := by
  unfold impl_HasHello.f
  by_cases h : (l.length : Int) > 300
  · rw [if_pos h, if_pos h]
  · rw [if_neg h, if_neg h]
    obtain ⟨r, hr, hd⟩ := idx_l0 a b c l (by omega) l.length k 0 (by omega) (by omega)
    unfold impl_Hello_24.f impl_Hello_38.f
    have hr' : impl_Hello_38.l0 k l (l.length : Int) 0 a b c = some r := by simpa using hr
    rw [hr', Option.bind_some, Option.bind_some, hd]
    rfl
theorem FnExactHasHello : laws_FnExactHasHello.Pure := by
  intro l a b c hl _ _ _
  by_cases hn : l.length ≤ 1048576
  · refine ⟨l.length + 302, ?_⟩
    unfold laws_FnExactHasHello.f laws_toHello.f
    rw [szHelloS_ok l _ (by omega) (by omega) (by omega), Option.bind_some, if_neg (by omega)]
    simp only [toHelloS l hn (l.length + 302) (by omega), Option.bind_some, spec_has a b c _ (l.length + 302) (by omega), impl_has a b c _ (l.length + 302) (by omega), laws_FnExactHasHello.j0, toHelloS l hn (l.length + 301) (by omega), eqHelloS (l.map cvHello) (by simpa using hn) (l.length + 301) (by simp)]
    simp
  · refine ⟨0, ?_⟩
    unfold laws_FnExactHasHello.f
    rw [szHelloS_big l _ (by omega) (by omega) hl.1 (by omega), Option.bind_some, if_pos (by omega)]

end Go.Proofs.Ytfbggjdaglfglaa.Pure
