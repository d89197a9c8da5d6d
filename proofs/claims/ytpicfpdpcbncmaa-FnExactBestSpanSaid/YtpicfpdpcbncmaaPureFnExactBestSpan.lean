import Derived.Test.YtpicfpdpcbncmaaQFnExactBestSpan
import Derived.Test.YtpicfpdpcbncmaaBBest
import Derived.Test.YtpicfpdpcbncmaaBInt
namespace Go.Proofs.Ytpicfpdpcbncmaa.Pure
open Go.RowKit Go.Proofs.Ytpicfpdpcbncmaa.P Go.Proofs.YtpicfpdpcbncmaaW.PrintWords Go.Proofs.YtpicfpdpcbncmaaW.PrintLast Go.Proofs.Ytpicfpdpcbncmaa.Opn
set_option linter.unusedVariables false
set_option linter.unusedSimpArgs false

theorem sum_l0 (l : List Int) (hl : l.length ≤ 8) (hv : ∀ x, x ∈ l → 1 ≤ x ∧ x ≤ 50) : ∀ (d k i : Nat) (s : Int), i + d = l.length → d < k → 0 ≤ s → s ≤ 50 * i → spec_l1Sum.l0 k s l (l.length : Int) (i : Int) = some (s + sumI (l.drop i)) := by
  intro d
  induction d with
  | zero =>
    intro k i s hi hk h0 h1
    obtain ⟨k, rfl⟩ := round hk
    rw [spec_l1Sum.l0, if_neg (by omega), List.drop_eq_nil_of_le (by omega)]
    simp [sumI]
  | succ d ih =>
    intro k i s hi hk h0 h1
    obtain ⟨k, rfl⟩ := round hk
    have hz := hv _ (rd_mem l i (by omega))
    have q : ((i + 1 : Nat) : Int) = (i : Int) + 1 := by omega
    have := ih k (i + 1) (s + rd l (i : Int)) (by omega) (by omega) (by omega) (by push_cast; omega)
    rw [q] at this
    rw [spec_l1Sum.l0, if_pos (by omega), if_pos (by omega), if_pos (by omega), wrap_id (x := s + rd l (i : Int)) (by omega) (by omega), wrap_id (x := (i : Int) + 1) (by omega) (by omega), this, drop_rd l i (by omega)]
    have e : sumI (rd l (i : Int) :: l.drop (i + 1)) = rd l (i : Int) + sumI (l.drop (i + 1)) := rfl
    rw [e, Int.add_assoc]
theorem sumI_le (l : List Int) (hv : ∀ x, x ∈ l → 1 ≤ x ∧ x ≤ 50) : 0 ≤ sumI l ∧ sumI l ≤ 50 * l.length := by
  induction l with
  | nil => simp [sumI]
  | cons x l ih =>
    have := ih fun y hy => hv y (List.mem_cons_of_mem _ hy)
    have hx := hv x List.mem_cons_self
    have e : sumI (x :: l) = x + sumI l := rfl
    rw [e, List.length_cons]
    push_cast
    omega
theorem bestSpan_both (l : List Int) (a : Int) (hn : l.length ≤ 1048576) (k : Nat) (hk : l.length + 200 < k) : ∃ r b, spec_BestSpan.f k l a = some (r, b) ∧ impl_BestSpan.f k l a = some (r, b) := by
  unfold spec_BestSpan.f impl_BestSpan.f
  rw [spec_goodC l a hn k (by omega), impl_goodC]
  simp only [Option.bind_some]
  by_cases hg : goodC l a = true
  · have hf := goodC_fact hg
    obtain ⟨n, rfl⟩ : ∃ n : Nat, a = (n : Int) := ⟨a.toNat, by omega⟩
    have hs := sumI_le l hf.2.1
    have hz : ∀ z, z ∈ List.replicate n (0 : Int) → z = 0 := fun z h => List.eq_of_mem_replicate h
    have hb : ∀ z, z ∈ List.replicate n (0 : Int) → 0 ≤ z ∧ z + 50 * (l.length : Int) ≤ 1000000 := fun z h => by have := hz z h; omega
    have e0 := sum_l0 l hf.1 hf.2.1 l.length k 0 0 (by omega) (by omega) (by omega) (by omega)
    rw [List.drop_zero, Int.zero_add] at e0
    have e1 : spec_l1Sum.f k l = some (sumI l) := e0
    have h1 := implBest l (List.replicate n 0) hf.2.1 hb (by simp; omega) (by simp; omega) k (by omega)
    have h2 := specBest l (List.replicate n 0) hf.2.1 hb (by simp; omega) (by simp; omega) k (sumI l + 1) (by omega)
    have h3 := opt_le l (List.replicate n 0) 0 (fun x hx => (hf.2.1 x hx).1) (fun z h => by have := hz z h; omega) (by simp; omega)
    rw [if_pos hg, if_pos hg, if_pos (by omega), if_pos (by omega), if_pos (by omega), if_pos (by omega), Int.toNat_natCast, e1, Option.bind_some, h1, Option.bind_some, wrap_id (x := sumI l + 1) (by omega) (by omega), h2, Option.bind_some, Int.min_eq_right (by omega)]
    exact ⟨_, _, rfl, rfl⟩
  · rw [if_neg hg, if_neg hg]
    exact ⟨_, _, rfl, rfl⟩
theorem FnExactBestSpan : laws_FnExactBestSpan.Pure := by
  intro l a hl _
  by_cases hn : l.length ≤ 1048576
  · refine ⟨l.length + 300, ?_⟩
    obtain ⟨r, b, h1, h2⟩ := bestSpan_both l a hn (l.length + 300) (by omega)
    unfold laws_FnExactBestSpan.f
    rw [if_neg (by omega)]
    simp only [toIntS l hn (l.length + 300) (by omega), Option.bind_some, h1, h2, if_true]
    rw [laws_FnExactBestSpan.j0]
    simp only [bne_self_eq_false, Bool.false_eq_true, if_false, toIntS l hn (l.length + 299) (by omega), Option.bind_some, eqIntS l l hn (l.length + 299) (by omega), decide_true, if_true]
  · refine ⟨0, ?_⟩
    unfold laws_FnExactBestSpan.f
    rw [if_pos (by omega)]

end Go.Proofs.Ytpicfpdpcbncmaa.Pure
