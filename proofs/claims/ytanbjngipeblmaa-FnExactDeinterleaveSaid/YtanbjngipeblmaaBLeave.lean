import Derived.Test.YtanbjngipeblmaaBL
import Derived.Test.YtanbjngipeblmaaBIn
import Derived.Test.YtanbjngipeblmaaPf14
import Derived.Test.YtanbjngipeblmaaPf16
import Derived.Test.YtanbjngipeblmaaPf15
import Derived.Test.YtanbjngipeblmaaPf17
namespace Go.Proofs.Ytanbjngipeblmaa.Pure
open Go.RowKit Go.Proofs.Ytanbjngipeblmaa.P Go.Proofs.YtanbjngipeblmaaW.PrintWords Go.Proofs.YtanbjngipeblmaaW.PrintLast Go.Proofs.Ytanbjngipeblmaa.Opn
set_option linter.unusedVariables false
set_option linter.unusedSimpArgs false

/-- a place in rows and columns: below the whole -/
theorem place_lt (a b m d : Int) (ha : 0 ≤ a) (ha2 : a < d) (hb : 0 ≤ b) (hb2 : b < m) : 0 ≤ a * m + b ∧ a * m + b < d * m := by
  have h1 : 0 ≤ a * m := Int.mul_nonneg ha (by omega)
  have h2 : a * m ≤ (d - 1) * m := Int.mul_le_mul_of_nonneg_right (by omega) (by omega)
  rw [Int.sub_mul, Int.one_mul] at h2
  omega
theorem sig_lt (i m d : Int) (h0 : 0 ≤ i) (h1 : i < d * m) (hd : 1 ≤ d) : 0 ≤ i % d * m + i / d ∧ i % d * m + i / d < d * m := by
  refine place_lt _ _ _ _ (Int.emod_nonneg i (by omega)) (Int.emod_lt_of_pos i (by omega)) (Int.ediv_nonneg h0 (by omega)) ?_
  exact Int.ediv_lt_of_lt_mul (by omega) (by rw [Int.mul_comm]; exact h1)
theorem sig_inv (i m d : Int) (h0 : 0 ≤ i) (h1 : i < d * m) (hd : 1 ≤ d) : (i % d * m + i / d) % m * d + (i % d * m + i / d) / m = i := by
  have hq : 0 ≤ i / d := Int.ediv_nonneg h0 (by omega)
  have hq2 : i / d < m := Int.ediv_lt_of_lt_mul (by omega) (by rw [Int.mul_comm]; exact h1)
  have e1 : (i % d * m + i / d) % m = i / d := by
    rw [Int.add_comm, Int.add_mul_emod_self_right, Int.emod_eq_of_lt hq hq2]
  have e2 : (i % d * m + i / d) / m = i % d := by
    rw [Int.add_comm, Int.add_mul_ediv_right _ _ (by omega), Int.ediv_eq_zero_of_lt hq hq2, Int.zero_add]
  rw [e1, e2, Int.mul_comm]
  exact Int.mul_ediv_add_emod i d
theorem across_l0 (F : Int → Option Int) (s : ByteArray) (hs : s.size ≤ 1048576) (hF : ∀ i : Int, 0 ≤ i → i < s.size → ∃ r, F i = some r ∧ 0 ≤ r ∧ r < s.size) : ∀ (e k i : Nat) (y : List Int), i + e = s.size → e < k → y.length = s.size → ∃ r, impl_across.l0 F k s y (s.size : Int) (i : Int) = some (strOfNums r) ∧ r.length = s.size ∧ (∀ j : Nat, j < i → r[j]? = y[j]?) ∧ (∀ j : Nat, i ≤ j → j < s.size → ∃ v, F (j : Int) = some v ∧ r[j]? = some (bt s v)) := by
  intro e
  induction e with
  | zero =>
    intro k i y h hk hy
    obtain ⟨k, rfl⟩ := round hk
    refine ⟨y, ?_, hy, fun _ _ => rfl, fun j h1 h2 => by omega⟩
    rw [impl_across.l0, if_neg (by omega)]
  | succ e ih =>
    intro k i y h hk hy
    obtain ⟨k, rfl⟩ := round hk
    obtain ⟨v, hv, h1, h2⟩ := hF i (by omega) (by omega)
    have q : ((i + 1 : Nat) : Int) = (i : Int) + 1 := by omega
    obtain ⟨r, hr, hl, ha, hb⟩ := ih k (i + 1) (y.set i (bt s v)) (by omega) (by omega) (by simpa using hy)
    refine ⟨r, ?_, hl, fun j hj => ?_, fun j hj hj2 => ?_⟩
    · rw [impl_across.l0, if_pos (by omega), hv, Option.bind_some, if_pos h1, if_pos h2, if_pos (by omega), if_pos (by omega), wrap_id (x := (i : Int) + 1) (by omega) (by omega), Int.toNat_natCast, ← q]
      exact hr
    · rw [ha j (by omega), List.getElem?_set_ne (by omega)]
    · by_cases e1 : j = i
      · subst e1
        refine ⟨v, hv, ?_⟩
        rw [ha j (by omega), List.getElem?_set_self (by omega)]
      · exact hb j (by omega) hj2
theorem across_f (F : Int → Option Int) (s : ByteArray) (hs : s.size ≤ 1048576) (hF : ∀ i : Int, 0 ≤ i → i < s.size → ∃ r, F i = some r ∧ 0 ≤ r ∧ r < s.size) (k : Nat) (hk : s.size < k) : ∃ r, impl_across.f F k s = some (strOfNums r) ∧ r.length = s.size ∧ (∀ j : Nat, j < s.size → ∃ v, F (j : Int) = some v ∧ r[j]? = some (bt s v)) := by
  obtain ⟨r, h1, h2, _, h4⟩ := across_l0 F s hs hF s.size k 0 (List.replicate s.size 0) (by omega) hk (by simp)
  refine ⟨r, ?_, h2, fun j hj => h4 j (by omega) hj⟩
  unfold impl_across.f
  rw [if_pos (by omega), if_pos (by omega), Option.bind_some, Int.toNat_natCast, List.length_replicate]
  exact h1
theorem spread_eq (n d : Int) : impl_isSpread.f n d = spec_l12Deep.f n d := by
  unfold impl_isSpread.f spec_l12Deep.f
  simp only [impl_in_, spec_in, Option.bind_some]
  by_cases h1 : 0 ≤ n ∧ n ≤ 120
  · by_cases h2 : 1 ≤ d ∧ d ≤ 12
    · simp [h1, h2]
    · simp [h1, h2]
  · by_cases h2 : 1 ≤ d ∧ d ≤ 12
    · simp [h1, h2]
    · simp [h1, h2]
theorem spread_some (n d : Int) : ∃ r, spec_l12Deep.f n d = some r := by
  unfold spec_l12Deep.f
  simp only [spec_in, Option.bind_some]
  by_cases h2 : 1 ≤ d ∧ d ≤ 12
  · rw [if_pos (by simpa using h2)]
    split
    · rw [if_neg (by omega)]
      exact ⟨_, rfl⟩
    · exact ⟨_, rfl⟩
  · rw [if_neg (by simpa using h2)]
    exact ⟨_, rfl⟩
/-- what is known of a text and a number of rows that may be spread -/
theorem spread_facts (n d : Int) (hn : 0 ≤ n) (h : spec_l12Deep.f n d = some true) : n ≤ 120 ∧ 1 ≤ d ∧ d ≤ 12 ∧ n = d * (n / d) ∧ 0 ≤ n / d ∧ n / d ≤ 120 := by
  rw [← spread_eq] at h
  obtain ⟨h1, h2, h3, h4⟩ := isSpread_yes n d h hn
  refine ⟨h1, h2, h3, ?_, Int.ediv_nonneg hn (by omega), Int.le_trans (Int.ediv_le_self _ hn) h1⟩
  have := Int.mul_ediv_add_emod n d
  omega
theorem wrap_sig (n d i : Int) (h0 : 0 ≤ i) (h1 : i < n) (hn : n ≤ 120) (hd : 1 ≤ d) (hd2 : d ≤ 12) : wrap64 (wrap64 (Int.tmod i d * wrap64 (n / d)) + wrap64 (Int.tdiv i d)) = i % d * (n / d) + i / d := il_val n d i h0 h1 hn hd hd2

end Go.Proofs.Ytanbjngipeblmaa.Pure
