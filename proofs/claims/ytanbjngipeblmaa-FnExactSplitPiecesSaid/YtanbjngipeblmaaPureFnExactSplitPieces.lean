import Derived.Test.YtanbjngipeblmaaQFnExactSplitPieces
import Derived.Test.YtanbjngipeblmaaBParity
import Derived.Test.YtanbjngipeblmaaBMarkS
import Derived.Test.YtanbjngipeblmaaPf31
import Derived.Test.YtanbjngipeblmaaPf32
namespace Go.Proofs.Ytanbjngipeblmaa.Pure
open Go.RowKit Go.Proofs.Ytanbjngipeblmaa.P Go.Proofs.YtanbjngipeblmaaW.PrintWords Go.Proofs.YtanbjngipeblmaaW.PrintLast Go.Proofs.Ytanbjngipeblmaa.Opn
set_option linter.unusedVariables false
set_option linter.unusedSimpArgs false

theorem split_same : ∀ (k : Nat) (x0 : ByteArray) (x6 : Int) (x7 : List ByteArray) (m i : Int), impl_SplitPieces.l0 k x0 x6 x7 m i = (spec_l12Split.l0 k x0 m x6 x7 i).bind fun r => some (r, true) := by
  intro k
  induction k with
  | zero => intros; rw [impl_SplitPieces.l0, spec_l12Split.l0]; rfl
  | succ k ih =>
    intro x0 x6 x7 m i
    rw [impl_SplitPieces.l0, spec_l12Split.l0, ih]
    by_cases h1 : i < m
    · by_cases h2 : 0 ≤ wrap64 (i * x6)
      · by_cases h3 : wrap64 (i * x6) ≤ wrap64 (wrap64 (i + 1) * x6)
        · by_cases h4 : wrap64 (wrap64 (i + 1) * x6) ≤ (x0.size : Int)
          · by_cases h5 : x7.length < 8796093022208
            · simp only [h1, h2, h3, h4, h5, if_true]
            · simp only [h1, h2, h3, h4, h5, if_true, if_false, Option.bind_none]
          · simp only [h1, h2, h3, h4, if_true, if_false, Option.bind_none]
        · simp only [h1, h2, h3, if_true, if_false, Option.bind_none]
      · simp only [h1, h2, if_true, if_false, Option.bind_none]
    · simp only [h1, if_false, Option.bind_some]
theorem split_some (s : ByteArray) (L : Nat) (m : Nat) (hm : m ≤ 8) (hL : L ≤ 1000) (hs : s.size = m * L) : ∀ (d k i : Nat) (x : List ByteArray), i + d = m → d < k → x.length = i → ∃ r, r.length = m ∧ spec_l12Split.l0 k s (m : Int) (L : Int) x (i : Int) = some r := by
  intro d
  induction d with
  | zero =>
    intro k i x hi hk hx
    obtain ⟨k, rfl⟩ := round hk
    rw [spec_l12Split.l0, if_neg (by omega)]
    exact ⟨x, by omega, rfl⟩
  | succ d ih =>
    intro k i x hi hk hx
    obtain ⟨k, rfl⟩ := round hk
    have e : ((i + 1 : Nat) : Int) = (i : Int) + 1 := by omega
    have m1 : (i + 1) * L ≤ m * L := Nat.mul_le_mul_right L (by omega)
    have m2 : (i + 1) * L = i * L + L := Nat.succ_mul i L
    have m3 : m * L ≤ 8 * 1000 := Nat.mul_le_mul hm hL
    have c1 : (i : Int) * (L : Int) = ((i * L : Nat) : Int) := by push_cast; rfl
    have c2 : ((i : Int) + 1) * (L : Int) = (((i + 1) * L : Nat) : Int) := by push_cast; rfl
    rw [spec_l12Split.l0, if_pos (by omega), wrap_id (x := (i : Int) + 1) (by omega) (by omega), c1, c2, wrap_id (x := ((i * L : Nat) : Int)) (by omega) (by omega), wrap_id (x := (((i + 1) * L : Nat) : Int)) (by omega) (by omega), if_pos (by omega), if_pos (by omega), if_pos (by omega), if_pos (by omega), ← e]
    exact ih k (i + 1) _ (by omega) (by omega) (by simp; omega)
theorem rep_zero (n : Nat) (h : n ≤ 1000000) : strings_Repeat.f (⟨#[0]⟩ : ByteArray) (n : Int) = some (strOfNums (List.replicate n 0)) := by
  unfold strings_Repeat.f
  rw [if_pos ⟨rfl, by omega, by omega⟩, Int.toNat_natCast]
  congr 1
  have e := Go.Lib.repeatL_replicate (0 : UInt8) 1 n
  have e2 : Go.Lib.repeatL (ByteArray.mk #[0]).data.toList n = List.replicate n 0 := by
    rw [Nat.mul_one] at e
    exact e
  rw [e2]
  unfold strOfNums
  simp [List.map_replicate]
theorem both_split (s : ByteArray) (a : Int) (hs : s.size ≤ 1048576) (ha : -9223372036854775808 ≤ a ∧ a ≤ 9223372036854775807) : ∃ (q1 : List ByteArray) (q2 : Bool), q1.length ≤ 8 ∧ ∀ k, 100 < k → spec_SplitPieces.f k s a = some (q1, q2) ∧ impl_SplitPieces.f k s a = some (q1, q2) := by
  by_cases h : 1 ≤ a ∧ a ≤ 7
  · obtain ⟨m, rfl⟩ := Int.eq_ofNat_of_zero_le (show 0 ≤ a by omega)
    by_cases hz : (s.size : Int) > (m : Int) * 16
    · refine ⟨[], false, by simp, fun k hk => ?_⟩
      obtain ⟨k, rfl⟩ := round (d := 0) (k := k) (by omega)
      unfold spec_SplitPieces.f impl_SplitPieces.f
      rw [spec_in, impl_in_, decide_eq_true h, Option.bind_some, Option.bind_some, if_pos rfl, if_pos rfl, wrap_id (x := (m : Int) * 16) (by omega) (by omega), if_pos hz, impl_SplitPieces.j0, decide_eq_true hz, if_pos rfl]
      exact ⟨rfl, rfl⟩
    · have hd : Int.tdiv ((s.size : Int) + (m : Int) - 1) (m : Int) = (((s.size + m - 1) / m : Nat) : Int) := by
        rw [Int.tdiv_eq_ediv_of_nonneg (by omega), show (s.size : Int) + (m : Int) - 1 = ((s.size + m - 1 : Nat) : Int) by omega]
        rfl
      obtain ⟨L, hLe⟩ : ∃ L, (s.size + m - 1) / m = L := ⟨_, rfl⟩
      have hL1 : L * m ≤ s.size + m - 1 := by rw [← hLe]; exact Nat.div_mul_le_self _ _
      have hL2 : s.size + m - 1 < L * m + m := by
        have := Nat.lt_div_mul_add (a := s.size + m - 1) (b := m) (by omega)
        rw [hLe] at this
        exact this
      have hmul : L * m = m * L := Nat.mul_comm L m
      have hLs : L ≤ 1000 := by
        have : L * 1 ≤ L * m := Nat.mul_le_mul_left L (by omega)
        omega
      have hc1 : (m : Int) * (L : Int) = ((m * L : Nat) : Int) := by push_cast; rfl
      have hc2 : (L : Int) * (m : Int) = ((m * L : Nat) : Int) := by rw [Int.mul_comm]; exact hc1
      have hsz : (s ++ strOfNums (List.replicate (m * L - s.size) 0)).size = m * L := by
        rw [ByteArray.size_append, strOfNums_size, List.length_replicate]
        omega
      obtain ⟨r, hr, h100⟩ := split_some _ L m (by omega) hLs hsz m 100 0 [] (by omega) (by omega) rfl
      have hr2 : ∀ k, 99 < k → spec_l12Split.l0 k (s ++ strOfNums (List.replicate (m * L - s.size) 0)) (m : Int) (L : Int) [] 0 = some r := by
        intro k hk
        have hm : ∀ d, spec_l12Split.l0 (100 + d) (s ++ strOfNums (List.replicate (m * L - s.size) 0)) (m : Int) (L : Int) [] 0 = some r := by
          intro d
          induction d with
          | zero => exact h100
          | succ d ih => exact spec_l12Split.mono_l (100 + d) _ _ _ _ _ _ ih
        have := hm (k - 100)
        rw [show 100 + (k - 100) = k by omega] at this
        exact this
      refine ⟨r, true, by omega, fun k hk => ?_⟩
      obtain ⟨k, rfl⟩ := round (d := 0) (k := k) (by omega)
      have hn : wrap64 (((m * L : Nat) : Int) - (s.size : Int)) = ((m * L - s.size : Nat) : Int) := by
        rw [wrap_id (by omega) (by omega)]
        omega
      unfold spec_SplitPieces.f impl_SplitPieces.f
      rw [spec_in, impl_in_, decide_eq_true h, Option.bind_some, Option.bind_some, if_pos rfl, if_pos rfl, wrap_id (x := (m : Int) * 16) (by omega) (by omega), if_neg hz, impl_SplitPieces.j0, decide_eq_false hz, if_neg (show ¬ (false = true) by decide)]
      unfold spec_l12Split.f
      rw [if_neg (show ¬ (m : Int) = 0 by omega), if_neg (show ¬ (m : Int) = 0 by omega), wrap_id (x := (s.size : Int) + (m : Int)) (by omega) (by omega), wrap_id (x := (s.size : Int) + (m : Int) - 1) (by omega) (by omega), hd, hLe, wrap_id (x := (L : Int)) (by omega) (by omega), hc1, hc2, wrap_id (x := ((m * L : Nat) : Int)) (by omega) (by omega), hn, rep_zero _ (by omega)]
      simp only [Option.bind_some, Int.toNat_natCast]
      rw [if_pos (by omega), if_pos (by omega), if_pos (by rw [strOfNums_size, List.length_replicate]; omega), if_pos (by rw [strOfNums_size, List.length_replicate]; omega), hr2 (k + 1) (by omega), split_same, hr2 k (by omega)]
      exact ⟨rfl, rfl⟩
  · refine ⟨[], false, by simp, fun k hk => ?_⟩
    obtain ⟨k, rfl⟩ := round (d := 0) (k := k) (by omega)
    unfold spec_SplitPieces.f impl_SplitPieces.f
    rw [spec_in, impl_in_, decide_eq_false h, Option.bind_some, Option.bind_some, if_neg (by decide), if_neg (by decide), impl_SplitPieces.j0, if_pos rfl]
    exact ⟨rfl, rfl⟩
theorem FnExactSplitPieces : laws_FnExactSplitPieces.Pure := by
  intro s a hs ha
  by_cases hc : (s.size : Int) > 1048576
  · refine ⟨0, ?_⟩
    unfold laws_FnExactSplitPieces.f
    rw [if_pos hc]
  · obtain ⟨q1, q2, hq, hb⟩ := both_split s a (by omega) ha
    refine ⟨1000 + 1 + 1, ?_⟩
    unfold laws_FnExactSplitPieces.f
    rw [if_neg hc]
    simp only [(hb (1000 + 1 + 1) (by omega)).1, (hb (1000 + 1 + 1) (by omega)).2, Option.bind_some, eqStringS q1 (by omega) (1000 + 1 + 1) (by omega), if_true, bne_self_eq_false]
    rw [laws_FnExactSplitPieces.j0]
    simp only [Bool.false_eq_true, if_false]
    rw [markStringS q1 1 (by omega) (by omega) (1000 + 1) (by omega)]
    simp only [Option.bind_some]
    rw [heldStringS q1.length 1 (by omega) (by omega) (1000 + 1) (by omega)]
    simp only [Option.bind_some]
    rw [if_neg (by omega)]
    simp only [if_true, (hb (1000 + 1) (by omega)).2, Option.bind_some, eqStringS q1 (by omega) (1000 + 1) (by omega), bne_self_eq_false]
    rw [laws_FnExactSplitPieces.j1]
    simp only [Bool.false_eq_true, if_false]
    rw [heldStringS q1.length 1 (by omega) (by omega) 1000 (by omega)]
    simp only [Option.bind_some]
    rw [if_neg (by omega)]
    simp only [if_true]

end Go.Proofs.Ytanbjngipeblmaa.Pure
