import Derived.Test.YtgdpkkmjjmmimaaQFnExactLeastSpan
import Derived.Test.YtgdpkkmjjmmimaaBSpan
import Derived.Test.YtgdpkkmjjmmimaaBSum
import Derived.Test.YtgdpkkmjjmmimaaPf17
import Derived.Test.YtgdpkkmjjmmimaaPf18
namespace Go.Proofs.Ytgdpkkmjjmmimaa.Pure
open Go.RowKit Go.Proofs.Ytgdpkkmjjmmimaa.P Go.Proofs.YtgdpkkmjjmmimaaW.PrintWords Go.Proofs.YtgdpkkmjjmmimaaW.PrintLast Go.Proofs.Ytgdpkkmjjmmimaa.Opn
set_option linter.unusedVariables false
set_option linter.unusedSimpArgs false

theorem sumW_bound (l : List Int) (hv : ∀ x ∈ l, 1 ≤ x ∧ x ≤ 50) : ∀ (s : Int), 0 ≤ s → s + 50 * l.length ≤ 1000000 → 0 ≤ sumW l s ∧ sumW l s ≤ s + 50 * l.length := by
  induction l with
  | nil => intro s h1 h2; simp [sumW]; exact h1
  | cons x l ih =>
    intro s h1 h2
    have hx := hv x (by simp)
    simp only [List.length_cons] at h2
    have := ih (fun z hz => hv z (by simp [hz])) (s + x) (by omega) (by push_cast at h2; omega)
    unfold sumW at this ⊢
    simp only [List.foldl_cons, List.length_cons]
    rw [wrap_id (by omega) (by push_cast at h2; omega)]
    push_cast
    omega
theorem least_l0 (l : List Int) (hn : l.length ≤ 1048576) : ∀ (d k i : Nat) (q : Int), i + d = l.length → d < k → spec_LeastSpan.l0 k q l (l.length : Int) (i : Int) = some ((l.drop i).foldl (fun m y => mx y m) q, true) := by
  intro d
  induction d with
  | zero =>
    intro k i q h hk
    obtain ⟨k, rfl⟩ := round hk
    simp only [spec_LeastSpan.l0]
    rw [if_neg (by omega), List.drop_of_length_le (by omega)]
    rfl
  | succ d ih =>
    intro k i q h hk
    obtain ⟨k, rfl⟩ := round hk
    simp only [spec_LeastSpan.l0, most_eq, Option.bind_some]
    rw [if_pos (by omega), if_pos (by omega), if_pos (by omega), drop_rd l i (by omega), wrap_id (x := (i : Int) + 1) (by omega) (by omega)]
    have := ih k (i + 1) (mx (rd l (i : Int)) q) (by omega) (by omega)
    simpa using this
theorem foldl_mx_swap (l : List Int) : ∀ (p q : Int), mx (l.foldl (fun m y => mx m y) p) q = l.foldl (fun m y => mx y m) (mx p q) := by
  induction l with
  | nil => intro p q; rfl
  | cons x l ih =>
    intro p q
    simp only [List.foldl_cons]
    rw [ih]
    congr 1
    simp only [mx_le]
    repeat' split
    all_goals omega
theorem leastSpan_eq (l : List Int) (a : Int) (hn : l.length ≤ 1048576) (k : Nat) (hk : l.length < k) : ∃ r, spec_LeastSpan.f k l a = some r ∧ impl_LeastSpan.f k l a = some r := by
  unfold spec_LeastSpan.f impl_LeastSpan.f
  rw [spec_goodC l a hn k hk, impl_goodC]
  simp only [Option.bind_some]
  by_cases hg : goodC l a = true
  · have hf := goodC_fact hg
    have hs := sumW_bound l hf.2.1 0 (by omega) (by omega)
    rw [if_pos hg, if_pos hg, l1Sum l hn k hk, if_pos (by simp; omega), implSum l hn k hk]
    simp only [Option.bind_some]
    have hnz : ¬ a = 0 := by omega
    simp only [hnz, if_false]
    have hq1 : wrap64 (wrap64 (sumW l 0 + a) - 1) = sumW l 0 + a - 1 := by
      rw [wrap_id (x := sumW l 0 + a) (by omega) (by omega), wrap_id (by omega) (by omega)]
    rw [hq1]
    have hq2 : 0 ≤ Int.tdiv (sumW l 0 + a - 1) a := Int.tdiv_nonneg (by omega) (by omega)
    have hq3 : Int.tdiv (sumW l 0 + a - 1) a ≤ sumW l 0 + a - 1 := Int.tdiv_le_self _ (by omega)
    rw [wrap_id (x := Int.tdiv (sumW l 0 + a - 1) a) (by omega) (by omega)]
    generalize Int.tdiv (sumW l 0 + a - 1) a = q at hq2 hq3
    have h1 := least_l0 l hn l.length k 0 q (by omega) hk
    have h2 : slices_Max_int_int.f ([0] ++ l) = some (l.foldl (fun m y => mx m y) 0) := by
      unfold slices_Max_int_int.f
      rw [if_neg (by simp)]
      rfl
    rw [h2]
    simp only [Option.bind_some, foldl_mx_swap]
    refine ⟨_, h1, ?_⟩
    simp only [List.drop_zero]
    rw [mx_le, if_pos hq2]
  · rw [if_neg hg, if_neg hg]
    exact ⟨_, rfl, rfl⟩
theorem FnExactLeastSpan : laws_FnExactLeastSpan.Pure := by
  intro l a hl _
  by_cases hn : l.length ≤ 1048576
  · refine ⟨l.length + 2, ?_⟩
    obtain ⟨r, h1, h2⟩ := leastSpan_eq l a hn (l.length + 2) (by omega)
    unfold laws_FnExactLeastSpan.f
    rw [if_neg (by omega)]
    simp only [toIntS l hn (l.length + 2) (by omega), Option.bind_some, h1, h2, laws_FnExactLeastSpan.j0, toIntS l hn (l.length + 1) (by omega), eqIntS l l hn (l.length + 1) (by omega)]
    simp
  · refine ⟨0, ?_⟩
    unfold laws_FnExactLeastSpan.f
    rw [if_pos (by omega)]

end Go.Proofs.Ytgdpkkmjjmmimaa.Pure
