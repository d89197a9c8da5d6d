import Derived.Test.YtgdpkkmjjmmimaaQFnExactSpanOf
import Derived.Test.YtgdpkkmjjmmimaaBSpan
namespace Go.Proofs.Ytgdpkkmjjmmimaa.Pure
open Go.RowKit Go.Proofs.Ytgdpkkmjjmmimaa.P Go.Proofs.YtgdpkkmjjmmimaaW.PrintWords Go.Proofs.YtgdpkkmjjmmimaaW.PrintLast Go.Proofs.Ytgdpkkmjjmmimaa.Opn
set_option linter.unusedVariables false
set_option linter.unusedSimpArgs false

theorem spanOf_eq (l c : List Int) (a : Int) (hn : l.length ≤ 1048576) (hm : c.length ≤ 1048576) (k : Nat) (hk : l.length < k) (hk2 : c.length < k) : ∃ r, spec_SpanOf.f k l a c = some r ∧ impl_SpanOf.f k l a c = some r := by
  unfold spec_SpanOf.f impl_SpanOf.f
  rw [spec_goodC l a hn k hk, impl_goodC]
  simp only [Option.bind_some]
  by_cases hg : goodC l a = true
  · have hf := goodC_fact hg
    rw [if_pos hg, if_pos hg, wrap_id (by omega) (by omega)]
    by_cases hc : c.length = l.length
    · rw [if_pos (by omega), if_pos hc, l1All c _ _ hm k hk2]
      simp only [Option.bind_some]
      have ha := any_inR c 0 (a - 1)
      by_cases hA : (c.all fun x => decide (0 ≤ x ∧ x ≤ a - 1)) = true
      · rw [hA] at ha
        rw [if_pos hA, if_neg (by simpa using ha)]
        obtain ⟨r, h1, y, h2, h3⟩ := spanBoth l c a hf.1 hf.2.1 hf.2.2 hc (by simpa using hA) k k hk hk
        exact ⟨(r, true), by rw [h1]; rfl, by rw [h2, Option.bind_some, h3]; rfl⟩
      · rw [Bool.not_eq_true] at hA
        rw [hA] at ha ⊢
        rw [if_neg (by simp), if_pos (by simpa using ha)]
        exact ⟨_, rfl, rfl⟩
    · rw [if_neg (by omega), if_neg hc]
      exact ⟨_, rfl, rfl⟩
  · rw [if_neg hg, if_neg hg]
    exact ⟨_, rfl, rfl⟩
theorem FnExactSpanOf : laws_FnExactSpanOf.Pure := by
  intro l a c hl _ hc
  by_cases hn : l.length ≤ 1048576
  · by_cases hm : c.length ≤ 1048576
    · refine ⟨l.length + c.length + 2, ?_⟩
      obtain ⟨r, h1, h2⟩ := spanOf_eq l c a hn hm (l.length + c.length + 2) (by omega) (by omega)
      unfold laws_FnExactSpanOf.f
      rw [if_neg (by omega), if_neg (by omega)]
      simp only [toIntS l hn (l.length + c.length + 2) (by omega), toIntS c hm (l.length + c.length + 2) (by omega), Option.bind_some, h1, h2, laws_FnExactSpanOf.j0, toIntS l hn (l.length + c.length + 1) (by omega), toIntS c hm (l.length + c.length + 1) (by omega), eqIntS l l hn (l.length + c.length + 1) (by omega), eqIntS c c hm (l.length + c.length + 1) (by omega)]
      simp
    · refine ⟨0, ?_⟩
      unfold laws_FnExactSpanOf.f
      rw [if_neg (by omega), if_pos (by omega)]
  · refine ⟨0, ?_⟩
    unfold laws_FnExactSpanOf.f
    rw [if_pos (by omega)]

end Go.Proofs.Ytgdpkkmjjmmimaa.Pure
