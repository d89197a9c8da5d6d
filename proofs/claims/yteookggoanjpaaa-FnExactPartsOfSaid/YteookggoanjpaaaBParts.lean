import Derived.Test.YteookggoanjpaaaBIn
import Derived.Test.YteookggoanjpaaaPf38
import Derived.Test.YteookggoanjpaaaPf12
import Derived.Test.YteookggoanjpaaaPf13
import Derived.Test.YteookggoanjpaaaPf11
import Derived.Test.YteookggoanjpaaaPf9
import Derived.Test.YteookggoanjpaaaPf10
namespace Go.Proofs.Yteookggoanjpaaa.Pure
open Go.RowKit Go.Proofs.Yteookggoanjpaaa.P Go.Proofs.YteookggoanjpaaaW.PrintWords Go.Proofs.YteookggoanjpaaaW.PrintLast Go.Proofs.Yteookggoanjpaaa.Opn
set_option linter.unusedVariables false
set_option linter.unusedSimpArgs false

abbrev Pt := S50
theorem rdPart (l : List Pt) (i : Nat) (h : i < l.length) : rd_T50 l (i : Int) = l[i] := by
  simp [rd_T50, List.getD_eq_getElem?_getD, List.getElem?_eq_getElem h]
theorem rd_setPart (l : List Pt) (i : Nat) (v : Pt) (h : i < l.length) : rd_T50 (l.set i v) (i : Int) = v := by
  rw [rdPart _ _ (by simpa using h)]
  simp
theorem eqPart_refl (x : Pt) : laws_eqPart.f x.f0 x.f1 x.f2 x.f3 x.f0 x.f1 x.f2 x.f3 = some true := by
  unfold laws_eqPart.f
  simp
theorem eqPartS_l0 (x : List Pt) (hn : x.length ≤ 1048576) : ∀ (d k i : Nat), i + d = x.length → d < k → laws_eqPartS.l0 k x x (i : Int) = some true := by
  intro d
  induction d with
  | zero =>
    intro k i hi hk
    obtain ⟨k, rfl⟩ := round hk
    simp only [laws_eqPartS.l0]
    rw [if_neg (by omega)]
  | succ d ih =>
    intro k i hi hk
    obtain ⟨k, rfl⟩ := round hk
    simp only [laws_eqPartS.l0]
    rw [if_pos (by omega), if_pos (by omega), if_pos (by omega), eqPart_refl, Option.bind_some, if_pos rfl, wrap_id (by omega) (by omega)]
    have := ih k (i + 1) (by omega) (by omega)
    simpa using this
theorem eqPartS (x : List Pt) (hn : x.length ≤ 1048576) (k : Nat) (hk : x.length < k) : laws_eqPartS.f k x x = some true := by
  unfold laws_eqPartS.f
  rw [if_pos rfl]
  exact eqPartS_l0 x hn x.length k 0 (by omega) hk
theorem markText_l0 : ∀ (d k : Nat) (a : Int) (x : ByteArray), 0 ≤ a → a ≤ 1000000 → a < 10 ^ d → d < k → x.size + d ≤ 1000 → ∃ t, laws_markText.l0 k a x = some t := by
  intro d
  induction d with
  | zero =>
    intro k a x h0 h2 h1 hk hx
    obtain ⟨k, rfl⟩ := round hk
    have : ¬ a > 0 := by simp at h1; omega
    rw [laws_markText.l0, if_neg this, if_pos (by omega)]
    exact ⟨_, rfl⟩
  | succ d ih =>
    intro k a x h0 h2 h1 hk hx
    obtain ⟨k, rfl⟩ := round hk
    rw [laws_markText.l0]
    by_cases hp : a > 0
    · rw [if_pos hp]
      simp only [Option.bind_some]
      rw [if_pos (by rw [strOfNums_size]; simp; omega)]
      have hq : Int.tdiv a 10 = a / 10 := Int.tdiv_eq_ediv_of_nonneg h0
      rw [hq]
      have h10 : a / 10 < 10 ^ d := by
        rw [Int.pow_succ] at h1
        omega
      rw [wrap_id (by omega) (by omega)]
      exact ih k (a / 10) _ (by omega) (by omega) h10 (by omega) (by rw [ByteArray.size_append, strOfNums_size]; simp; omega)
    · rw [if_neg hp, if_pos (by omega)]
      exact ⟨_, rfl⟩
theorem markText_some (a : Int) (h1 : a < 1000000) (k : Nat) (hk : 8 ≤ k) : ∃ t, laws_markText.f k a = some t := by
  unfold laws_markText.f
  by_cases h : a ≤ 0
  · rw [if_pos h]
    exact ⟨_, rfl⟩
  · rw [if_neg h]
    exact markText_l0 6 k a _ (by omega) (by omega) (by simpa using h1) (by omega) (by decide)
theorem mt_all : ∃ m : Int → ByteArray, ∀ a k, a < 1000000 → 8 ≤ k → laws_markText.f k a = some (m a) := by
  refine ⟨fun a => (laws_markText.f 8 a).getD ByteArray.empty, fun a k h1 hk => ?_⟩
  obtain ⟨t, ht⟩ := markText_some a h1 8 (Nat.le_refl 8)
  have e : (fun a => (laws_markText.f 8 a).getD ByteArray.empty) a = t := by
    show (laws_markText.f 8 a).getD ByteArray.empty = t
    rw [ht]
    rfl
  rw [e]
  induction k with
  | zero => omega
  | succ k ih =>
    by_cases h : 8 ≤ k
    · exact laws_markText.mono a k t (ih h)
    · have : k + 1 = 8 := by omega
      rw [this]
      exact ht
noncomputable def mt : Int → ByteArray := Classical.choose mt_all
theorem markText_mt (a : Int) (h1 : a < 1000000) (k : Nat) (hk : 8 ≤ k) : laws_markText.f k a = some (mt a) := Classical.choose_spec mt_all a k h1 hk
noncomputable def ptAt (a : Int) (i : Nat) : Pt := ⟨a + 4 * (i : Int), a + 4 * (i : Int) + 1, a + 4 * (i : Int) + 2, mt (a + 4 * (i : Int) + 3)⟩
noncomputable def mkPart (a : Int) (n : Nat) : List Pt := (List.range n).map (ptAt a)
theorem mkPart_length (a : Int) (n : Nat) : (mkPart a n).length = n := by simp [mkPart]
theorem mkPart_snoc (a : Int) (n : Nat) : mkPart a (n + 1) = mkPart a n ++ [ptAt a n] := by
  unfold mkPart
  rw [List.range_succ, List.map_append]
  rfl
theorem mkPart_rd (a : Int) (n i : Nat) (h : i < n) : rd_T50 (mkPart a n) (i : Int) = ptAt a i := by
  rw [rdPart _ _ (by rw [mkPart_length]; exact h)]
  simp [mkPart]
theorem markPartS_l0 (n : Nat) (a : Int) (ha : 0 ≤ a) (hb : a + 4 * n ≤ 900000) : ∀ (d k i : Nat) (y : List Pt), i + d = n → d + 9 < k → y.length = n → y.take i = mkPart a i → laws_markPartS.l0 k y (a + 4 * i) (i : Int) = some (a + 4 * n, mkPart a n) := by
  intro d
  induction d with
  | zero =>
    intro k i y hi hk hy ht
    obtain ⟨k, rfl⟩ := round hk
    simp only [laws_markPartS.l0]
    rw [if_neg (by omega)]
    have : i = n := by omega
    subst this
    rw [List.take_of_length_le (by omega)] at ht
    rw [ht]
  | succ d ih =>
    intro k i y hi hk hy ht
    obtain ⟨k, rfl⟩ := round hk
    have hl1 : i < y.length := by omega
    have c1 : (i : Int) < (y.length : Int) := by omega
    have c2 : (0 : Int) ≤ (i : Int) := by omega
    have e1 : i + 1 + d = n := by omega
    have e2 : d + 9 < k := by omega
    have e3 : 8 ≤ k := by omega
    have e4 : a + 4 * (i : Int) + 3 < 1000000 := by omega
    have hm := markText_mt (a + 4 * (i : Int) + 3) e4 k e3
    have := ih k (i + 1) (y.set i (ptAt a i)) e1 e2 (by rw [List.length_set]; exact hy) (by rw [take_set_succ _ _ hl1, ht, mkPart_snoc])
    have w1 : wrap64 (a + 4 * (i : Int) + 1) = a + 4 * (i : Int) + 1 := wrap_id (by omega) (by omega)
    have w2 : wrap64 (a + 4 * (i : Int) + 1 + 1) = a + 4 * (i : Int) + 2 := by rw [wrap_id (by omega) (by omega)]; omega
    have w3 : wrap64 (a + 4 * (i : Int) + 2 + 1) = a + 4 * (i : Int) + 3 := by rw [wrap_id (by omega) (by omega)]; omega
    have w4 : wrap64 (a + 4 * (i : Int) + 3 + 1) = a + 4 * ((i + 1 : Nat) : Int) := by rw [wrap_id (by omega) (by omega)]; push_cast; omega
    have w5 : wrap64 ((i : Int) + 1) = ((i + 1 : Nat) : Int) := by rw [wrap_id (by omega) (by omega)]; omega
    simp only [laws_markPartS.l0, Option.bind_some, Int.toNat_natCast, w1, w2, w3, w4, w5, hm, rd_setPart, List.length_set, hl1, List.set_set, c1, c2, if_true]
    exact this
theorem markPartS (y : List Pt) (a : Int) (ha : 0 ≤ a) (hb : a + 4 * y.length ≤ 900000) (k : Nat) (hk : y.length + 9 < k) : laws_markPartS.f k y a = some (a + 4 * (y.length : Int), mkPart a y.length) := by
  unfold laws_markPartS.f
  have := markPartS_l0 y.length a ha hb y.length k 0 y (by omega) hk rfl (by simp [mkPart])
  simpa using this
theorem heldPartS_l0 (n : Nat) (a : Int) (ha : 0 ≤ a) (hb : a + 4 * n ≤ 900000) : ∀ (d k i : Nat), i + d = n → d + 9 < k → laws_heldPartS.l0 k (mkPart a n) (a + 4 * i) (i : Int) = some (a + 4 * n) := by
  intro d
  induction d with
  | zero =>
    intro k i hi hk
    obtain ⟨k, rfl⟩ := round hk
    simp only [laws_heldPartS.l0]
    rw [if_neg (by rw [mkPart_length]; omega)]
    have : i = n := by omega
    subst this
    rfl
  | succ d ih =>
    intro k i hi hk
    obtain ⟨k, rfl⟩ := round hk
    have w1 : wrap64 (a + 4 * (i : Int) + 1) = a + 4 * (i : Int) + 1 := wrap_id (by omega) (by omega)
    have w2 : wrap64 (a + 4 * (i : Int) + 1 + 1) = a + 4 * (i : Int) + 2 := by rw [wrap_id (by omega) (by omega)]; omega
    have w3 : wrap64 (a + 4 * (i : Int) + 2 + 1) = a + 4 * (i : Int) + 3 := by rw [wrap_id (by omega) (by omega)]; omega
    have w4 : wrap64 (a + 4 * (i : Int) + 3 + 1) = a + 4 * ((i + 1 : Nat) : Int) := by rw [wrap_id (by omega) (by omega)]; push_cast; omega
    have w5 : wrap64 ((i : Int) + 1) = ((i + 1 : Nat) : Int) := by rw [wrap_id (by omega) (by omega)]; omega
    simp only [laws_heldPartS.l0, mkPart_rd a n i (by omega), ptAt, w1, w2, w3, w4, w5, markText_mt (a + 4 * (i : Int) + 3) (by omega) k (by omega), Option.bind_some, if_true]
    rw [if_pos (by rw [mkPart_length]; omega), if_pos (by omega)]
    exact ih k (i + 1) (by omega) (by omega)
theorem heldPartS (n : Nat) (a : Int) (ha : 0 ≤ a) (hb : a + 4 * n ≤ 900000) (k : Nat) (hk : n + 9 < k) : laws_heldPartS.f k (mkPart a n) a = some (a + 4 * (n : Int)) := by
  unfold laws_heldPartS.f
  have := heldPartS_l0 n a ha hb n k 0 (by omega) hk
  simpa using this
theorem least_eq (a b : Int) : spec_l1Least.f a b = some (mn b a) := by
  unfold spec_l1Least.f mn
  by_cases h : a < b
  · rw [if_pos h, if_pos (by omega)]
  · rw [if_neg h, if_neg (by omega)]
theorem parts_l0 : ∀ (k : Nat) (a : Int) (t : ByteArray) (l : List Pt) (i : Int), spec_PartsOf.l0 k a t l i = impl_PartsOf.l0 k a t l i := by
  intro k
  induction k with
  | zero => intros; rfl
  | succ k ih =>
    intro a t l i
    simp only [spec_PartsOf.l0, impl_PartsOf.l0, least_eq, Option.bind_some, ih]
theorem parts_eq (k : Nat) (a : Int) (t : ByteArray) : spec_PartsOf.f k a t = impl_PartsOf.f k a t := by
  unfold spec_PartsOf.f impl_PartsOf.f
  have e : impl_isBlock.f a (t.size : Int) = spec_l13Id.f a (t.size : Int) := rfl
  rw [e]
  simp only [parts_l0]
theorem parts_some_l0 (a : Int) (t : ByteArray) (ht : t.size ≤ 40) : ∀ (d k i : Nat) (l : List Pt), t.size < i + 4 * d + 1 → i ≤ 100 → l.length + d ≤ 1000 → d < k → d ≤ 20 → ∃ c, impl_PartsOf.l0 k a t l (i : Int) = some (c, true) ∧ c.length ≤ l.length + d := by
  intro d
  induction d with
  | zero =>
    intro k i l h hi hl hk hd
    obtain ⟨k, rfl⟩ := round hk
    rw [impl_PartsOf.l0, if_neg (by omega)]
    exact ⟨l, rfl, by omega⟩
  | succ d ih =>
    intro k i l h hi hl hk hd
    obtain ⟨k, rfl⟩ := round hk
    rw [impl_PartsOf.l0]
    by_cases hc : (i : Int) < (t.size : Int)
    · have w : wrap64 ((i : Int) + 4) = ((i + 4 : Nat) : Int) := by rw [wrap_id (by omega) (by omega)]; omega
      rw [if_pos hc, if_pos (by omega), w]
      have m1 : (i : Int) ≤ mn ((i + 4 : Nat) : Int) (t.size : Int) := by unfold mn; split <;> omega
      have m2 : mn ((i + 4 : Nat) : Int) (t.size : Int) ≤ (t.size : Int) := by unfold mn; split <;> omega
      rw [if_pos m1, if_pos m2, if_pos (by omega)]
      obtain ⟨c, e, hcl⟩ := ih k (i + 4) (l ++ [⟨a, (i : Int), (t.size : Int), t.extract (i : Int).toNat (mn ((i + 4 : Nat) : Int) (t.size : Int)).toNat⟩]) (by omega) (by omega) (by simp; omega) (by omega) (by omega)
      exact ⟨c, e, by simp at hcl; omega⟩
    · rw [if_neg hc]
      exact ⟨l, rfl, by omega⟩
theorem parts_some (a : Int) (t : ByteArray) (k : Nat) (hk : 12 < k) : ∃ c b, impl_PartsOf.f k a t = some (c, b) ∧ c.length ≤ 11 := by
  unfold impl_PartsOf.f impl_isBlock.f
  simp only [impl_in_, Option.bind_some]
  by_cases h1 : 0 ≤ a ∧ a ≤ 1000
  · by_cases h2 : 1 ≤ (t.size : Int) ∧ (t.size : Int) ≤ 40
    · simp only [h1, h2, and_self, decide_true, if_true, Option.bind_some]
      obtain ⟨c, e, hc⟩ := parts_some_l0 a t (by omega) 10 k 0 [] (by omega) (by omega) (by simp) (by omega) (by omega)
      exact ⟨c, true, e, by simp at hc; omega⟩
    · simp only [h1, h2, and_self, decide_true, decide_false, if_true, Option.bind_some, Bool.false_eq_true, if_false]
      exact ⟨[], false, rfl, by simp⟩
  · simp only [h1, decide_false, Bool.false_eq_true, if_false, Option.bind_some]
    exact ⟨[], false, rfl, by simp⟩

end Go.Proofs.Yteookggoanjpaaa.Pure
