import Derived.Test.YtieigkiaihcgeaaQFnExactSeeAll
import Derived.Test.YtieigkiaihcgeaaBSee
namespace Go.Proofs.Ytieigkiaihcgeaa.Pure
open Go.RowKit Go.Proofs.Ytieigkiaihcgeaa.P Go.Proofs.YtieigkiaihcgeaaW.PrintWords Go.Proofs.YtieigkiaihcgeaaW.PrintLast Go.Proofs.Ytieigkiaihcgeaa.Opn
set_option linter.unusedVariables false
set_option linter.unusedSimpArgs false

def fail5 : Int × Int × Int × Int × Bool := (0, 0, 0, 0, false)
def saS : Int → Int → Int → Int → List Sn → Int × Int × Int × Int × Bool
  | a, b, c, d, [] => (a, b, c, d, true)
  | a, b, c, d, x :: l => if seenB x = true then saS (seeV a b c d x).1 (seeV a b c d x).2.1 (seeV a b c d x).2.2.1 (seeV a b c d x).2.2.2 l else (0, 0, 0, 0, false)
def saI : Int → Int → Int → Int → List Sn → Int × Int × Int × Int × Bool
  | a, b, c, d, [] => (a, b, c, d, true)
  | a, b, c, d, x :: l => saI (seeV a b c d x).1 (seeV a b c d x).2.1 (seeV a b c d x).2.2.1 (seeV a b c d x).2.2.2 l
theorem sa_good (l : List Sn) : ∀ (a b c d : Int), l.all seenB = true → saS a b c d l = saI a b c d l := by
  induction l with
  | nil => intro a b c d _; rfl
  | cons x l ih =>
    intro a b c d h
    rw [List.all_cons, Bool.and_eq_true] at h
    rw [saS, saI, if_pos h.1, ih _ _ _ _ h.2]
theorem sa_bad (l : List Sn) : ∀ (a b c d : Int), ¬ l.all seenB = true → saS a b c d l = (0, 0, 0, 0, false) := by
  induction l with
  | nil => intro a b c d h; exact absurd rfl h
  | cons x l ih =>
    intro a b c d h
    rw [saS]
    by_cases hs : seenB x = true
    · rw [if_pos hs, ih]
      intro h'
      exact h (by rw [List.all_cons, hs, h']; rfl)
    · rw [if_neg hs]
theorem spec_l0 (l : List Sn) (hn : l.length ≤ 1048576) : ∀ (e k i : Nat) (a b c d : Int), i + e = l.length → e < k → spec_SeeAll.l0 k l (l.length : Int) (i : Int) a b c d = some (saS a b c d (l.drop i)) := by
  intro e
  induction e with
  | zero =>
    intro k i a b c d h hk
    obtain ⟨k, rfl⟩ := round hk
    rw [spec_SeeAll.l0, if_neg (by omega), List.drop_of_length_le (by omega), saS]
  | succ e ih =>
    intro k i a b c d h hk
    obtain ⟨k, rfl⟩ := round hk
    have q : ((i + 1 : Nat) : Int) = (i : Int) + 1 := by omega
    have hi := fun a b c d => ih k (i + 1) a b c d (by omega) (by omega)
    simp only [q] at hi
    rw [spec_SeeAll.l0, if_pos (by omega), if_pos (by omega), if_pos (by omega), spec_seen, Option.bind_some, spec_see, Option.bind_some, drop_rdSeen l i (by omega), saS, wrap_id (x := (i : Int) + 1) (by omega) (by omega), hi]
    split <;> rfl
theorem impl_l0 (l : List Sn) (hn : l.length ≤ 1048576) : ∀ (e k i : Nat) (a b c d : Int), i + e = l.length → e < k → impl_SeeAll.l0 k l (l.length : Int) (i : Int) a b c d = some (saI a b c d (l.drop i)) := by
  intro e
  induction e with
  | zero =>
    intro k i a b c d h hk
    obtain ⟨k, rfl⟩ := round hk
    rw [impl_SeeAll.l0, if_neg (by omega), List.drop_of_length_le (by omega), saI]
  | succ e ih =>
    intro k i a b c d h hk
    obtain ⟨k, rfl⟩ := round hk
    have q : ((i + 1 : Nat) : Int) = (i : Int) + 1 := by omega
    have hi := fun a b c d => ih k (i + 1) a b c d (by omega) (by omega)
    simp only [q] at hi
    rw [impl_SeeAll.l0, if_pos (by omega), if_pos (by omega), if_pos (by omega), impl_see, Option.bind_some, drop_rdSeen l i (by omega), saI, wrap_id (x := (i : Int) + 1) (by omega) (by omega), hi]
def sa (a b c d : Int) (ok : Bool) (l : List Sn) : Int × Int × Int × Int × Bool := if ok = true then (if (l.all seenB && decide ((l.length : Int) ≤ 60)) = true then saI a b c d l else (0, 0, 0, 0, false)) else (0, 0, 0, 0, false)
theorem spec_sa (n : Int) (l : List Sn) (hn : l.length ≤ 1048576) (k : Nat) (hk : l.length + 1 < k) (a b c d : Int) (ok : Bool) (hg : spec_NewGuess.f n = some (a, b, c, d, ok)) : spec_SeeAll.f k n l = some (sa a b c d ok l) := by
  obtain ⟨k, rfl⟩ := round hk
  unfold spec_SeeAll.f sa
  have := spec_l0 l hn l.length k 0 a b c d (by omega) (by omega)
  rw [show ((0 : Nat) : Int) = 0 from rfl, List.drop_zero] at this
  rw [hg, Option.bind_some]
  dsimp only
  cases ok with
  | false =>
    rw [if_neg (by simp), if_neg (by simp), spec_SeeAll.j0]
    rfl
  | true =>
    rw [if_pos rfl, if_pos rfl, spec_SeeAll.j0]
    by_cases h6 : (l.length : Int) ≤ 60
    · have h6' : ¬ (l.length : Int) > 60 := by omega
      rw [if_neg (by simpa using h6'), this]
      by_cases ha : l.all seenB = true
      · rw [if_pos (by simp [ha, h6]), sa_good l _ _ _ _ ha]
      · rw [if_neg (by simp [ha]), sa_bad l _ _ _ _ ha]
    · have h6' : (l.length : Int) > 60 := by omega
      rw [if_pos (by simpa using h6'), if_neg (by simp [h6])]
theorem impl_sa (n : Int) (l : List Sn) (hn : l.length ≤ 1048576) (k : Nat) (hk : l.length + 1 < k) (a b c d : Int) (ok : Bool) (hg : spec_NewGuess.f n = some (a, b, c, d, ok)) : impl_SeeAll.f k n l = some (sa a b c d ok l) := by
  obtain ⟨k, rfl⟩ := round hk
  unfold impl_SeeAll.f sa
  have := impl_l0 l hn l.length k 0 a b c d (by omega) (by omega)
  rw [show ((0 : Nat) : Int) = 0 from rfl, List.drop_zero] at this
  rw [impl_new, hg, Option.bind_some, areSeen l hn (k + 1) (by omega), Option.bind_some]
  dsimp only
  cases ok with
  | false =>
    rw [if_neg (by simp), if_neg (by simp), impl_SeeAll.j0]
    rfl
  | true =>
    rw [if_pos rfl, if_pos rfl, impl_SeeAll.j0, this]
    cases (l.all seenB && decide ((l.length : Int) ≤ 60)) <;> rfl
theorem FnExactSeeAll : laws_FnExactSeeAll.Pure := by
  intro n l _ h
  by_cases hs : (l.length : Int) ≤ 1048576
  · obtain ⟨k, hk⟩ : ∃ k : Nat, 3000000 < k := ⟨3000001, by omega⟩
    refine ⟨k + 1, ?_⟩
    have g0 : l.length ≤ 1048576 := by omega
    have g1 : (l.map cvSeen).length ≤ 1048576 := by simpa using g0
    have g2 : (l.map cvSeen).length + 1 < k := by simp only [List.length_map]; omega
    obtain ⟨a, b, c, d, ok, hg⟩ := spec_new n
    obtain ⟨q, hq⟩ : ∃ q, q = sa a b c d ok (l.map cvSeen) := ⟨_, rfl⟩
    unfold laws_FnExactSeeAll.f laws_eqGuess.f
    rw [szSeenS_ok l _ (by omega) (by omega) hs, Option.bind_some, if_neg (by omega)]
    simp only [toSeenS l g0 (k + 1) (by omega), Option.bind_some, spec_sa n _ g1 (k + 1) (by omega) a b c d ok hg, impl_sa n _ g1 (k + 1) (by omega) a b c d ok hg, ← hq, if_true, bne_self_eq_false]
    rw [laws_FnExactSeeAll.j0]
    simp only [Bool.false_eq_true, if_false, toSeenS l g0 k (by omega), Option.bind_some, eqSeenS _ g1 k (by omega), if_true]
  · refine ⟨0, ?_⟩
    unfold laws_FnExactSeeAll.f
    rw [szSeenS_big l _ (by omega) (by omega) h.1 hs, Option.bind_some, if_pos (by omega)]

end Go.Proofs.Ytieigkiaihcgeaa.Pure
