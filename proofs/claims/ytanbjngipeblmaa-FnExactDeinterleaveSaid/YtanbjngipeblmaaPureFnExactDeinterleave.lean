import Derived.Test.YtanbjngipeblmaaQFnExactDeinterleave
import Derived.Test.YtanbjngipeblmaaBLeave
namespace Go.Proofs.Ytanbjngipeblmaa.Pure
open Go.RowKit Go.Proofs.Ytanbjngipeblmaa.P Go.Proofs.YtanbjngipeblmaaW.PrintWords Go.Proofs.YtanbjngipeblmaaW.PrintLast Go.Proofs.Ytanbjngipeblmaa.Opn
set_option linter.unusedVariables false
set_option linter.unusedSimpArgs false

theorem dl_F (s : ByteArray) (d : Int) (h : spec_l12Deep.f (s.size : Int) d = some true) : ∀ i : Int, 0 ≤ i → i < s.size → ∃ r, dlF ((s.size : Int) / d) d i = some r ∧ 0 ≤ r ∧ r < s.size ∧ r = i % ((s.size : Int) / d) * d + i / ((s.size : Int) / d) := by
  intro i h0 h1
  obtain ⟨a1, a2, a3, a4, a5, a6⟩ := spread_facts _ _ (by omega) h
  have hm : 1 ≤ (s.size : Int) / d := by
    rcases Int.lt_or_eq_of_le a5 with h | h
    · omega
    · rw [← h, Int.mul_zero] at a4
      omega
  have e : (s.size : Int) / d * d = s.size := by rw [Int.mul_comm]; exact a4.symm
  have := sig_lt i d ((s.size : Int) / d) h0 (by rw [e]; exact h1) hm
  rw [e] at this
  exact ⟨_, by unfold dlF; rw [if_pos ⟨h0, by rw [e]; exact h1⟩], this.1, this.2, rfl⟩
def sg (n d : Int) (i : Int) : Int := i % d * (n / d) + i / d
theorem spec_dl_l0 (s : ByteArray) (d : Int) (h : spec_l12Deep.f (s.size : Int) d = some true) : ∀ (e k i : Nat) (y : List Int), i + e = s.size → e < k → y.length = s.size → (∀ t : Nat, t < i → y[(sg s.size d t).toNat]? = some (bt s (t : Int))) → ∃ r, spec_Deinterleave.l0 k s d (wrap64 ((s.size : Int) / d)) y (s.size : Int) (i : Int) = some (strOfNums r, true) ∧ r.length = s.size ∧ (∀ t : Nat, t < s.size → r[(sg s.size d t).toNat]? = some (bt s (t : Int))) := by
  obtain ⟨a1, a2, a3, a4, a5, a6⟩ := spread_facts _ _ (by omega) h
  have hsg : ∀ t : Int, 0 ≤ t → t < s.size → 0 ≤ sg s.size d t ∧ sg s.size d t < s.size := by
    intro t h0 h1
    have := sig_lt t ((s.size : Int) / d) d h0 (by rw [← a4]; exact h1) a2
    rw [← a4] at this
    exact this
  have hinv : ∀ t u : Int, 0 ≤ t → t < s.size → 0 ≤ u → u < s.size → sg s.size d t = sg s.size d u → t = u := by
    intro t u h0 h1 h2 h3 he
    have e1 := sig_inv t ((s.size : Int) / d) d h0 (by rw [← a4]; exact h1) a2
    have e2 := sig_inv u ((s.size : Int) / d) d h2 (by rw [← a4]; exact h3) a2
    unfold sg at he
    rw [he, e2] at e1
    exact e1.symm
  intro e
  induction e with
  | zero =>
    intro k i y hi hk hy ht
    obtain ⟨k, rfl⟩ := round hk
    refine ⟨y, ?_, hy, fun t htt => ht t (by omega)⟩
    rw [spec_Deinterleave.l0, if_neg (by omega)]
  | succ e ih =>
    intro k i y hi hk hy ht
    obtain ⟨k, rfl⟩ := round hk
    have q : ((i + 1 : Nat) : Int) = (i : Int) + 1 := by omega
    have ew := wrap_sig (s.size : Int) d i (by omega) (by omega) a1 a2 a3
    have hb := hsg i (by omega) (by omega)
    change _ = sg s.size d i at ew
    obtain ⟨r, hr, hl, hrt⟩ := ih k (i + 1) (y.set (sg s.size d i).toNat (bt s (i : Int))) (by omega) (by omega) (by simpa using hy) (by
      intro t htt
      by_cases e1 : t = i
      · subst e1
        rw [List.getElem?_set_self (by omega)]
      · have hne : (sg s.size d i).toNat ≠ (sg s.size d t).toNat := by
          intro hq
          have h1 := hsg t (by omega) (by omega)
          have := hinv t i (by omega) (by omega) (by omega) (by omega) (by omega)
          omega
        rw [List.getElem?_set_ne hne]
        exact ht t (by omega))
    refine ⟨r, ?_, hl, hrt⟩
    rw [spec_Deinterleave.l0, if_pos (by omega), if_neg (by omega), if_pos (by omega), if_pos (by omega), ew, if_pos hb.1, if_pos (by omega), wrap_id (x := (i : Int) + 1) (by omega) (by omega), ← q]
    exact hr
theorem dl_both (s : ByteArray) (d : Int) (hs : s.size ≤ 1048576) (k : Nat) (hk : s.size < k) : ∃ q, spec_Deinterleave.f k s d = some q ∧ impl_Deinterleave.f k s d = some q := by
  unfold spec_Deinterleave.f impl_Deinterleave.f
  obtain ⟨t, ht⟩ := spread_some (s.size : Int) d
  rw [spread_eq, ht]
  simp only [Option.bind_some]
  cases t with
  | false => exact ⟨_, rfl, rfl⟩
  | true =>
    obtain ⟨a1, a2, a3, a4, a5, a6⟩ := spread_facts _ _ (by omega) ht
    obtain ⟨r, hr, hl, hj⟩ := across_f _ s hs (fun i h0 h1 => let ⟨r, x, y, z, _⟩ := dl_F s d ht i h0 h1; ⟨r, x, y, z⟩) k hk
    obtain ⟨r2, hr2, hl2, hj2⟩ := spec_dl_l0 s d ht s.size k 0 (List.replicate s.size 0) (by omega) hk (by simp) (fun t h => by omega)
    have e : r2 = r := by
      apply List.ext_getElem?
      intro j
      by_cases hjn : j < s.size
      · obtain ⟨v, hv, hrv⟩ := hj j hjn
        obtain ⟨v', hv', g0, g1, g2⟩ := dl_F s d ht j (by omega) (by omega)
        rw [hv] at hv'
        cases hv'
        have hm : 1 ≤ (s.size : Int) / d := by
          rcases Int.lt_or_eq_of_le a5 with h | h
          · omega
          · rw [← h, Int.mul_zero] at a4
            omega
        have eq : (s.size : Int) / d * d = s.size := by rw [Int.mul_comm]; exact a4.symm
        have hi := sig_inv (j : Int) d ((s.size : Int) / d) (by omega) (by rw [eq]; omega) hm
        rw [← g2] at hi
        have h3 := hj2 v.toNat (by omega)
        unfold sg at h3
        rw [Int.toNat_of_nonneg g0, hi, Int.toNat_natCast] at h3
        rw [h3, hrv]
      · rw [List.getElem?_eq_none (by omega), List.getElem?_eq_none (by omega)]
    subst e
    refine ⟨(strOfNums r2, true), ?_, ?_⟩
    · rw [if_pos rfl, if_neg (by omega), if_pos (by omega), if_pos (by omega), Int.toNat_natCast, List.length_replicate]
      exact hr2
    · rw [if_pos rfl, hr, Option.bind_some]
theorem FnExactDeinterleave : laws_FnExactDeinterleave.Pure := by
  intro s d hs _
  by_cases hc : (s.size : Int) > 1048576
  · refine ⟨0, ?_⟩
    unfold laws_FnExactDeinterleave.f
    rw [if_pos hc]
  · obtain ⟨q, h1, h2⟩ := dl_both s d (by omega) (s.size + 1) (by omega)
    refine ⟨s.size + 1, ?_⟩
    unfold laws_FnExactDeinterleave.f
    rw [if_neg hc, h1, Option.bind_some, h2, Option.bind_some]
    simp

end Go.Proofs.Ytanbjngipeblmaa.Pure
