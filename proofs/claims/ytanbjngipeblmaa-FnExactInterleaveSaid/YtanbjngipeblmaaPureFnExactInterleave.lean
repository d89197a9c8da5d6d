import Derived.Test.YtanbjngipeblmaaQFnExactInterleave
import Derived.Test.YtanbjngipeblmaaBLeave
namespace Go.Proofs.Ytanbjngipeblmaa.Pure
open Go.RowKit Go.Proofs.Ytanbjngipeblmaa.P Go.Proofs.YtanbjngipeblmaaW.PrintWords Go.Proofs.YtanbjngipeblmaaW.PrintLast Go.Proofs.Ytanbjngipeblmaa.Opn
set_option linter.unusedVariables false
set_option linter.unusedSimpArgs false

theorem il_F (s : ByteArray) (d : Int) (h : spec_l12Deep.f (s.size : Int) d = some true) : ∀ i : Int, 0 ≤ i → i < s.size → ∃ r, ilF (s.size : Int) d i = some r ∧ 0 ≤ r ∧ r < s.size := by
  intro i h0 h1
  obtain ⟨a1, a2, a3, a4, a5, a6⟩ := spread_facts _ _ (by omega) h
  have := sig_lt i ((s.size : Int) / d) d h0 (by rw [← a4]; exact h1) a2
  rw [← a4] at this
  exact ⟨_, by unfold ilF; rw [if_pos ⟨h0, h1⟩], this.1, this.2⟩
theorem spec_il_l0 (s : ByteArray) (d : Int) (h : spec_l12Deep.f (s.size : Int) d = some true) : ∀ (e k i : Nat) (y : List Int), i + e = s.size → e < k → y.length = s.size → spec_Interleave.l0 k s d (wrap64 ((s.size : Int) / d)) y (s.size : Int) (i : Int) = (impl_across.l0 (ilF (s.size : Int) d) k s y (s.size : Int) (i : Int)).bind fun r => some (r, true) := by
  obtain ⟨a1, a2, a3, a4, a5, a6⟩ := spread_facts _ _ (by omega) h
  intro e
  induction e with
  | zero =>
    intro k i y h hk hy
    obtain ⟨k, rfl⟩ := round hk
    rw [spec_Interleave.l0, if_neg (by omega), impl_across.l0, if_neg (by omega), Option.bind_some]
  | succ e ih =>
    intro k i y hi hk hy
    obtain ⟨k, rfl⟩ := round hk
    obtain ⟨v, hv, h1, h2⟩ := il_F s d h i (by omega) (by omega)
    have q : ((i + 1 : Nat) : Int) = (i : Int) + 1 := by omega
    have ev : v = (i : Int) % d * ((s.size : Int) / d) + (i : Int) / d := by
      unfold ilF at hv
      rw [if_pos ⟨by omega, by omega⟩] at hv
      exact (Option.some.inj hv).symm
    have ew := wrap_sig (s.size : Int) d i (by omega) (by omega) a1 a2 a3
    rw [← ev] at ew
    have := ih k (i + 1) (y.set i (bt s v)) (by omega) (by omega) (by simpa using hy)
    rw [spec_Interleave.l0, if_pos (by omega), if_neg (by omega), ew, if_pos h1, if_pos h2, if_pos (by omega), if_pos (by omega), wrap_id (x := (i : Int) + 1) (by omega) (by omega), Int.toNat_natCast, ← q, this]
    rw [impl_across.l0, if_pos (by omega), hv, Option.bind_some, if_pos h1, if_pos h2, if_pos (by omega), if_pos (by omega), wrap_id (x := (i : Int) + 1) (by omega) (by omega), Int.toNat_natCast, ← q]
theorem il_both (s : ByteArray) (d : Int) (hs : s.size ≤ 1048576) (k : Nat) (hk : s.size < k) : ∃ q, spec_Interleave.f k s d = some q ∧ impl_Interleave.f k s d = some q := by
  unfold spec_Interleave.f impl_Interleave.f
  obtain ⟨t, ht⟩ := spread_some (s.size : Int) d
  rw [spread_eq, ht]
  simp only [Option.bind_some]
  cases t with
  | false => exact ⟨_, rfl, rfl⟩
  | true =>
    obtain ⟨a1, a2, a3, a4, a5, a6⟩ := spread_facts _ _ (by omega) ht
    obtain ⟨r, hr, hl, _⟩ := across_f _ s hs (il_F s d ht) k hk
    refine ⟨(strOfNums r, true), ?_, ?_⟩
    · rw [if_pos rfl, if_neg (by omega), if_pos (by omega), if_pos (by omega), Int.toNat_natCast, List.length_replicate]
      have := spec_il_l0 s d ht s.size k 0 (List.replicate s.size 0) (by omega) hk (by simp)
      refine Eq.trans this ?_
      unfold impl_across.f at hr
      rw [if_pos (by omega), if_pos (by omega), Option.bind_some, Int.toNat_natCast, List.length_replicate] at hr
      rw [show ((0 : Nat) : Int) = 0 from rfl, hr, Option.bind_some]
    · rw [if_pos rfl, hr, Option.bind_some]
theorem FnExactInterleave : laws_FnExactInterleave.Pure := by
  intro s d hs _
  by_cases hc : (s.size : Int) > 1048576
  · refine ⟨0, ?_⟩
    unfold laws_FnExactInterleave.f
    rw [if_pos hc]
  · obtain ⟨q, h1, h2⟩ := il_both s d (by omega) (s.size + 1) (by omega)
    refine ⟨s.size + 1, ?_⟩
    unfold laws_FnExactInterleave.f
    rw [if_neg hc, h1, Option.bind_some, h2, Option.bind_some]
    simp

end Go.Proofs.Ytanbjngipeblmaa.Pure
