import Derived.Test.YtieigkiaihcgeaaBSeenS
import Derived.Test.YtieigkiaihcgeaaBIn
import Derived.Test.YtieigkiaihcgeaaPf19
import Derived.Test.YtieigkiaihcgeaaPf22
import Derived.Test.YtieigkiaihcgeaaPf26
namespace Go.Proofs.Ytieigkiaihcgeaa.Pure
open Go.RowKit Go.Proofs.Ytieigkiaihcgeaa.P Go.Proofs.YtieigkiaihcgeaaW.PrintWords Go.Proofs.YtieigkiaihcgeaaW.PrintLast Go.Proofs.Ytieigkiaihcgeaa.Opn
set_option linter.unusedVariables false
set_option linter.unusedSimpArgs false

abbrev Sn := S30
def seenB (x : Sn) : Bool := decide (0 ≤ x.f0 ∧ x.f0 ≤ 1000) && (if x.f2 = true then decide (x.f0 = 0) && !x.f1 else true)
theorem spec_seen (x : Sn) : spec_l9Seen.f x.f0 x.f1 x.f2 = some (seenB x) := by
  unfold spec_l9Seen.f seenB
  simp only [spec_in, Option.bind_some]
  by_cases h : 0 ≤ x.f0 ∧ x.f0 ≤ 1000
  · rw [if_pos (by simpa using h)]
    simp only [h, and_self, decide_true, Bool.true_and]
    by_cases h2 : x.f2 = true
    · rw [if_pos h2, if_pos h2]
      by_cases h0 : x.f0 = 0
      · rw [if_pos h0]
        simp [h0]
      · rw [if_neg h0]
        simp [h0]
    · rw [if_neg h2, if_neg h2]
  · rw [if_neg (by simpa using h)]
    simp only [h, decide_false, Bool.false_and]
theorem impl_seen (x : Sn) : impl_isSeen.f x.f0 x.f1 x.f2 = some (seenB x) := by
  unfold impl_isSeen.f seenB
  simp only [impl_in_, Option.bind_some]
  by_cases h : 0 ≤ x.f0 ∧ x.f0 ≤ 1000
  · rw [if_pos (by simpa using h)]
    simp only [h, and_self, decide_true, Bool.true_and]
    by_cases h2 : x.f2 = true
    · rw [if_pos h2, if_pos h2]
      cases x.f1 with
      | true => simp
      | false =>
        by_cases h0 : x.f0 = 0
        · simp [h0]
        · have h0' : 0 < x.f0 := by omega
          simp [h0, h0']
    · rw [if_neg h2, if_neg h2]
      rfl
  · rw [if_neg (by simpa using h)]
    simp only [h, decide_false, Bool.false_and]
theorem areSeen_l0 (l : List Sn) (hn : l.length ≤ 1048576) : ∀ (d k i : Nat), i + d = l.length → d < k → impl_areSeen.l0 k l l (l.length : Int) (i : Int) = some ((l.drop i).all seenB && decide ((l.length : Int) ≤ 60)) := by
  intro d
  induction d with
  | zero =>
    intro k i h hk
    obtain ⟨k, rfl⟩ := round hk
    rw [impl_areSeen.l0, if_neg (by omega), List.drop_of_length_le (by omega)]
    simp
  | succ d ih =>
    intro k i h hk
    obtain ⟨k, rfl⟩ := round hk
    have := ih k (i + 1) (by omega) (by omega)
    have e : ((i + 1 : Nat) : Int) = (i : Int) + 1 := by omega
    rw [e] at this
    rw [impl_areSeen.l0, if_pos (by omega), if_pos (by omega), if_pos (by omega), impl_seen, Option.bind_some, drop_rdSeen l i (by omega), List.all_cons, wrap_id (x := (i : Int) + 1) (by omega) (by omega), this]
    cases seenB (rd_T30 l (i : Int)) <;> simp
theorem areSeen (l : List Sn) (hn : l.length ≤ 1048576) (k : Nat) (hk : l.length < k) : impl_areSeen.f k l = some (l.all seenB && decide ((l.length : Int) ≤ 60)) := by
  unfold impl_areSeen.f
  have := areSeen_l0 l hn l.length k 0 (by omega) hk
  simpa using this

end Go.Proofs.Ytieigkiaihcgeaa.Pure
