import Derived.Test.YtieigkiaihcgeaaQFnExactRangeOf
import Derived.Test.YtieigkiaihcgeaaBSeen
import Derived.Test.YtieigkiaihcgeaaPf16
import Derived.Test.YtieigkiaihcgeaaPf17
namespace Go.Proofs.Ytieigkiaihcgeaa.Pure
open Go.RowKit Go.Proofs.Ytieigkiaihcgeaa.P Go.Proofs.YtieigkiaihcgeaaW.PrintWords Go.Proofs.YtieigkiaihcgeaaW.PrintLast Go.Proofs.Ytieigkiaihcgeaa.Opn
set_option linter.unusedVariables false
set_option linter.unusedSimpArgs false

theorem most_eq (a b : Int) : spec_l1Most.f a b = some (max a b) := by
  unfold spec_l1Most.f
  split
  · rw [Int.max_eq_left (by omega)]
  · rw [Int.max_eq_right (by omega)]
def skipB (x : Sn) : Bool := x.f2 || x.f1
def rgS (big : Bool) : Int → Int → List Sn → Int × Int × Bool
  | lo, hi, [] => if big = true then (0, 0, false) else if lo < 0 then (0, 0, false) else (lo, hi, true)
  | lo, hi, x :: l => if seenB x = true then (if skipB x = true then rgS big lo hi l else if lo < 0 then rgS big x.f0 (max hi x.f0) l else if x.f0 < lo then rgS big x.f0 (max hi x.f0) l else rgS big lo (max hi x.f0) l) else (0, 0, false)
def rgI : Int → Int → Bool → List Sn → Int × Int × Bool
  | a, b, f, [] => (a, b, f)
  | a, b, f, x :: l => if skipB x = true then rgI a b f l else if f = true then rgI (mn a x.f0) (mx b x.f0) true l else rgI (mn x.f0 x.f0) (mx x.f0 x.f0) true l
theorem spec_j1 (k : Nat) (x0 : List Sn) (a b : Int) (x9 : List Sn) (n i : Int) (x : Sn) :
    (if x.f2 = true then (spec_RangeOf.j1 (k + 1) x0 a b x9 n i true x.f0 x.f1 x.f2) else (spec_RangeOf.j1 (k + 1) x0 a b x9 n i x.f1 x.f0 x.f1 x.f2))
      = if skipB x = true then spec_RangeOf.l0 k x0 a b x9 n (wrap64 (i + 1)) else if a < 0 then spec_RangeOf.l0 k x0 x.f0 (max b x.f0) x9 n (wrap64 (i + 1)) else if x.f0 < a then spec_RangeOf.l0 k x0 x.f0 (max b x.f0) x9 n (wrap64 (i + 1)) else spec_RangeOf.l0 k x0 a (max b x.f0) x9 n (wrap64 (i + 1)) := by
  unfold skipB
  rw [spec_RangeOf.j1, spec_RangeOf.j1]
  simp only [most_eq, Option.bind_some]
  cases x.f2 <;> cases x.f1 <;> simp
theorem impl_j1 (k : Nat) (a b : Int) (f : Bool) (x9 : List Sn) (n i : Int) (x : Sn) :
    (if x.f2 = true then (impl_RangeOf.j1 (k + 1) a b f x9 n i true x.f0 x.f1 x.f2) else (impl_RangeOf.j1 (k + 1) a b f x9 n i x.f1 x.f0 x.f1 x.f2))
      = if skipB x = true then impl_RangeOf.l0 k a b f x9 n (wrap64 (i + 1)) else if f = true then impl_RangeOf.l0 k (mn a x.f0) (mx b x.f0) true x9 n (wrap64 (i + 1)) else impl_RangeOf.l0 k (mn x.f0 x.f0) (mx x.f0 x.f0) true x9 n (wrap64 (i + 1)) := by
  unfold skipB
  rw [impl_RangeOf.j1, impl_RangeOf.j1]
  cases x.f2 <;> cases x.f1 <;> simp
theorem spec_l0 (l : List Sn) (hn : l.length ≤ 1048576) : ∀ (d k i : Nat) (a b : Int), i + d = l.length → 2 * d < k → spec_RangeOf.l0 k l a b l (l.length : Int) (i : Int) = some (rgS (decide ((l.length : Int) > 60)) a b (l.drop i)) := by
  intro d
  induction d with
  | zero =>
    intro k i a b h hk
    obtain ⟨k, rfl⟩ := round hk
    rw [spec_RangeOf.l0, if_neg (by omega), List.drop_of_length_le (by omega), rgS]
    by_cases h6 : (l.length : Int) > 60
    · simp [h6]
    · by_cases ha : a < 0 <;> simp [h6, ha]
  | succ d ih =>
    intro k i a b h hk
    obtain ⟨k, rfl⟩ : ∃ m, k = m + 1 + 1 := ⟨k - 2, by omega⟩
    have e : ((i + 1 : Nat) : Int) = (i : Int) + 1 := by omega
    have hi := fun a b => ih k (i + 1) a b (by omega) (by omega)
    simp only [e] at hi
    rw [spec_RangeOf.l0, if_pos (by omega), if_pos (by omega), if_pos (by omega), spec_seen, Option.bind_some, spec_j1, drop_rdSeen l i (by omega), rgS, wrap_id (x := (i : Int) + 1) (by omega) (by omega)]
    simp only [hi]
    split
    · split
      · rfl
      · split
        · rfl
        · split <;> rfl
    · rfl
theorem impl_l0 (l : List Sn) (hn : l.length ≤ 1048576) : ∀ (d k i : Nat) (a b : Int) (f : Bool), i + d = l.length → 2 * d < k → impl_RangeOf.l0 k a b f l (l.length : Int) (i : Int) = some (rgI a b f (l.drop i)) := by
  intro d
  induction d with
  | zero =>
    intro k i a b f h hk
    obtain ⟨k, rfl⟩ := round hk
    rw [impl_RangeOf.l0, if_neg (by omega), List.drop_of_length_le (by omega), rgI]
  | succ d ih =>
    intro k i a b f h hk
    obtain ⟨k, rfl⟩ : ∃ m, k = m + 1 + 1 := ⟨k - 2, by omega⟩
    have e : ((i + 1 : Nat) : Int) = (i : Int) + 1 := by omega
    have hi := fun a b f => ih k (i + 1) a b f (by omega) (by omega)
    simp only [e] at hi
    rw [impl_RangeOf.l0, if_pos (by omega), if_pos (by omega), if_pos (by omega), impl_j1, drop_rdSeen l i (by omega), rgI, wrap_id (x := (i : Int) + 1) (by omega) (by omega)]
    simp only [hi]
    split
    · rfl
    · split <;> rfl
theorem rg_bad (l : List Sn) : ∀ (big : Bool) (a b : Int), (l.all seenB && !big) = false → rgS big a b l = (0, 0, false) := by
  induction l with
  | nil => intro big a b h; simp at h; simp [rgS, h]
  | cons x l ih =>
    intro big a b h
    rw [rgS]
    cases hs : seenB x with
    | false => rfl
    | true =>
      rw [List.all_cons, hs, Bool.true_and] at h
      simp only [ih big _ _ h, if_true]
      split
      · rfl
      · split
        · rfl
        · split <;> rfl
theorem rg_some (l : List Sn) : ∀ (a b : Int), 0 ≤ a → l.all seenB = true → rgS false a b l = rgI a b true l := by
  induction l with
  | nil => intro a b ha _; rw [rgS, rgI, if_neg (by decide), if_neg (by omega)]
  | cons x l ih =>
    intro a b ha h
    rw [List.all_cons, Bool.and_eq_true] at h
    have hx : 0 ≤ x.f0 := by
      have := h.1
      unfold seenB at this
      simp at this
      omega
    have em : mx b x.f0 = max b x.f0 := by unfold mx; omega
    rw [rgS, rgI, if_pos h.1, if_neg (show ¬ a < 0 by omega), if_pos rfl, em]
    by_cases hs : skipB x = true
    · rw [if_pos hs, if_pos hs, ih a b ha h.2]
    · rw [if_neg hs, if_neg hs]
      by_cases hl : x.f0 < a
      · rw [if_pos hl, ih _ _ hx h.2, show mn a x.f0 = x.f0 by unfold mn; omega]
      · rw [if_neg hl, ih _ _ ha h.2, show mn a x.f0 = a by unfold mn; omega]
theorem rg_none (l : List Sn) (h : l.all seenB = true) : rgS false (-1) (-1) l = rgI 0 0 false l := by
  induction l with
  | nil => rfl
  | cons x l ih =>
    rw [List.all_cons, Bool.and_eq_true] at h
    have hx : 0 ≤ x.f0 := by
      have := h.1
      unfold seenB at this
      simp at this
      omega
    rw [rgS, rgI, if_pos h.1]
    by_cases hs : skipB x = true
    · rw [if_pos hs, if_pos hs, ih h.2]
    · rw [if_neg hs, if_neg hs, if_pos (by decide), if_neg (by decide), show mn x.f0 x.f0 = x.f0 by unfold mn; omega, show mx x.f0 x.f0 = x.f0 by unfold mx; omega, show max (-1) x.f0 = x.f0 by omega]
      exact rg_some l _ _ hx h.2
def rg (l : List Sn) : Int × Int × Bool := if (l.all seenB && decide ((l.length : Int) ≤ 60)) = true then rgI 0 0 false l else (0, 0, false)
theorem spec_rg (l : List Sn) (hn : l.length ≤ 1048576) (k : Nat) (hk : 2 * l.length < k) : spec_RangeOf.f k l = some (rg l) := by
  unfold spec_RangeOf.f rg
  have := spec_l0 l hn l.length k 0 (-1) (-1) (by omega) hk
  rw [show ((0 : Nat) : Int) = 0 from rfl, List.drop_zero] at this
  rw [this]
  by_cases h6 : (l.length : Int) ≤ 60
  · have h6' : ¬ (l.length : Int) > 60 := by omega
    by_cases ha : l.all seenB = true
    · simp only [h6, h6', decide_true, decide_false, ha, Bool.and_true, if_true]
      rw [rg_none l ha]
    · rw [if_neg (by simp [ha]), rg_bad l _ _ _ (by simp [ha])]
  · have h6' : (l.length : Int) > 60 := by omega
    rw [if_neg (by simp [h6]), rg_bad l _ _ _ (by simp [h6'])]
theorem impl_rg (l : List Sn) (hn : l.length ≤ 1048576) (k : Nat) (hk : 2 * l.length < k) : impl_RangeOf.f k l = some (rg l) := by
  unfold impl_RangeOf.f rg
  rw [areSeen l hn k (by omega), Option.bind_some]
  have := impl_l0 l hn l.length k 0 0 0 false (by omega) hk
  rw [show ((0 : Nat) : Int) = 0 from rfl, List.drop_zero] at this
  rw [this]
  split <;> rfl
theorem FnExactRangeOf : laws_FnExactRangeOf.Pure := by
  intro l h
  by_cases hs : (l.length : Int) ≤ 1048576
  · obtain ⟨k, hk⟩ : ∃ k : Nat, 3000000 < k := ⟨3000001, by omega⟩
    refine ⟨k + 1, ?_⟩
    have g0 : l.length ≤ 1048576 := by omega
    have g1 : (l.map cvSeen).length ≤ 1048576 := by simpa using g0
    have g2 : 2 * (l.map cvSeen).length < k := by simp only [List.length_map]; omega
    unfold laws_FnExactRangeOf.f
    rw [szSeenS_ok l _ (by omega) (by omega) hs, Option.bind_some, if_neg (by omega)]
    simp only [toSeenS l g0 (k + 1) (by omega), Option.bind_some, spec_rg _ g1 (k + 1) (by omega), impl_rg _ g1 (k + 1) (by omega), if_true, bne_self_eq_false]
    rw [laws_FnExactRangeOf.j0]
    simp only [Bool.false_eq_true, if_false, toSeenS l g0 k (by omega), Option.bind_some, eqSeenS _ g1 k (by omega), if_true]
  · refine ⟨0, ?_⟩
    unfold laws_FnExactRangeOf.f
    rw [szSeenS_big l _ (by omega) (by omega) h.1 hs, Option.bind_some, if_pos (by omega)]

end Go.Proofs.Ytieigkiaihcgeaa.Pure
