/- FnExactBothOpen: for every input that can be read, the law returns true and its arguments read as before. Conditions: none beyond the row's own. (Part 6 of 6: contracts made by pw.py with the kit's print, contracts by hand, plain laws, the row.) -/
import Derived.Test.YtlmokpmdodoihaaMFnExactBothOpen4
import Derived.Test.YtlmokpmdodoihaaRows
import Derived.WalkKit
import Derived.ProofKit
import Derived.OpenShut
import Derived.ShutString
import Derived.ChangeOld
import Derived.Below
import Derived.SizedLaws
import Derived.Carry

namespace Go.Proofs.Ytlmokpmdodoihaa.Pure
open Go.RowKit Go.Proofs.Ytlmokpmdodoihaa.P Go.Proofs.YtlmokpmdodoihaaW.PrintWords Go.Proofs.YtlmokpmdodoihaaW.PrintLast Go.Proofs.Ytlmokpmdodoihaa.Opn
set_option linter.unusedVariables false
set_option linter.unusedSimpArgs false

abbrev He := S44
abbrev HeL := S53
theorem toGreet (a0 a1 a2 a3 a4 a5 a6 a7 : Int) (l8 l9 l10 : List HeL) (h8 : l8.length ≤ 1048576) (h9 : l9.length ≤ 1048576) (h10 : l10.length ≤ 1048576) (k : Nat) (hk : 1048576 < k) : laws_toGreet.f k a0 a1 a2 a3 a4 a5 a6 a7 l8 l9 l10 = some (a0, a1, a2, a3, a4, a5, a6, a7, l8.map cvHello, l9.map cvHello, l10.map cvHello) := by
  unfold laws_toGreet.f
  rw [toHelloS l8 h8 k (by omega), toHelloS l9 h9 k (by omega), toHelloS l10 h10 k (by omega)]
  rfl
theorem eqGreet (a0 a1 a2 a3 a4 a5 a6 a7 : Int) (l8 l9 l10 : List He) (h8 : l8.length ≤ 1048576) (h9 : l9.length ≤ 1048576) (h10 : l10.length ≤ 1048576) (k : Nat) (hk : 1048576 < k) : laws_eqGreet.f k a0 a1 a2 a3 a4 a5 a6 a7 l8 l9 l10 a0 a1 a2 a3 a4 a5 a6 a7 l8 l9 l10 = some true := by
  unfold laws_eqGreet.f
  simp only [if_true, eqHelloS l8 h8 k (by omega), eqHelloS l9 h9 k (by omega), eqHelloS l10 h10 k (by omega), Option.bind_some]
theorem szGreet (a0 a1 a2 a3 a4 a5 a6 a7 : Int) (l8 l9 l10 : List HeL) (h8 : l8.length ≤ 9223372036854775807) (h9 : l9.length ≤ 9223372036854775807) (h10 : l10.length ≤ 9223372036854775807) : ∃ v, laws_szGreet.f a0 a1 a2 a3 a4 a5 a6 a7 l8 l9 l10 1048576 = some v ∧ (0 ≤ v → l8.length ≤ 1048576 ∧ l9.length ≤ 1048576 ∧ l10.length ≤ 1048576) := by
  unfold laws_szGreet.f
  by_cases c8 : (l8.length : Int) ≤ 1048576
  · rw [szHelloS_ok l8 _ (by omega) (by omega) c8, Option.bind_some, if_neg (by omega)]
    by_cases c9 : (l9.length : Int) ≤ 1048576 - l8.length
    · rw [szHelloS_ok l9 _ (by omega) (by omega) c9, Option.bind_some, if_neg (by omega)]
      by_cases c10 : (l10.length : Int) ≤ 1048576 - l8.length - l9.length
      · rw [szHelloS_ok l10 _ (by omega) (by omega) c10, Option.bind_some, if_neg (by omega)]
        exact ⟨_, rfl, fun _ => ⟨by omega, by omega, by omega⟩⟩
      · rw [szHelloS_big l10 _ (by omega) (by omega) h10 c10, Option.bind_some, if_pos (by omega)]
        exact ⟨_, rfl, fun h => by omega⟩
    · rw [szHelloS_big l9 _ (by omega) (by omega) h9 c9, Option.bind_some, if_pos (by omega)]
      exact ⟨_, rfl, fun h => by omega⟩
  · rw [szHelloS_big l8 _ (by omega) (by omega) h8 c8, Option.bind_some, if_pos (by omega)]
    exact ⟨_, rfl, fun h => by omega⟩
def ofB (x last : Int) (z : Bool) : Bool := if z = true then x == 0 else inR 1 last x
theorem inR_dec (lo hi x : Int) : decide (lo ≤ x ∧ x ≤ hi) = inR lo hi x := rfl
theorem l15Of (x last : Int) (z : Bool) : spec_l15Of.f x last z = some (ofB x last z) := by
  unfold spec_l15Of.f ofB
  rw [spec_in, Option.bind_some, inR_dec]
  cases z <;> rfl
theorem l15Letter (a0 a1 a2 a3 a4 a5 a6 a7 : Int) (l8 l9 l10 : List He) (x : He) : spec_l15Letter.f a0 a1 a2 a3 a4 a5 a6 a7 l8 l9 l10 x.f0 x.f1 x.f2 = some (helloB a6 a7 x) := by
  unfold spec_l15Letter.f helloB
  rw [spec_in, Option.bind_some, l15Of, Option.bind_some, l15Of, Option.bind_some]
  by_cases h1 : x.f0 = 1
  · simp only [h1, ofB]
    cases inR 1 a6 x.f1 <;> simp
  · by_cases h2 : x.f0 = 2
    · simp only [h2, ofB]
      cases inR 1 a6 x.f1 <;> simp
    · by_cases h3 : x.f0 = 3
      · simp only [h3, ofB]
        cases inR 1 a6 x.f1 <;> simp
      · have : ¬ (1 ≤ x.f0 ∧ x.f0 ≤ 3) := by omega
        rw [if_neg h1, if_neg h2, if_neg h3, decide_eq_false this]
        rfl
def bad1 (a6 a7 : Int) (l : List He) : Bool := l.any (fun x => !helloB a6 a7 x)
def bad2 (a6 a7 : Int) (l : List He) : Bool := l.any (fun x => x.f0 != 3 || !helloB a6 a7 x)
theorem spec_l1 (a0 a1 a2 a3 a4 a5 a6 a7 : Int) (l8 l9 l10 : List He) (l : List He) (hn : l.length ≤ 1048576) : ∀ (d k i : Nat), i + d = l.length → d < k → spec_GoodGreet.l1 k l (l.length : Int) (i : Int) a0 a1 a2 a3 a4 a5 a6 a7 l8 l9 l10 = some (!bad2 a6 a7 (l.drop i)) := by
  intro d
  induction d with
  | zero =>
    intro k i h hk
    obtain ⟨k, rfl⟩ := round hk
    rw [spec_GoodGreet.l1, if_neg (by omega), List.drop_of_length_le (by omega)]
    rfl
  | succ d ih =>
    intro k i h hk
    obtain ⟨k, rfl⟩ := round hk
    have e : ((i + 1 : Nat) : Int) = (i : Int) + 1 := by omega
    rw [spec_GoodGreet.l1, if_pos (by omega), if_pos (by omega), if_pos (by omega), l15Letter, Option.bind_some, wrap_id (x := (i : Int) + 1) (by omega) (by omega), ← e, ih k (i + 1) (by omega) (by omega), drop_rdHello l i (by omega)]
    unfold bad2
    rw [List.any_cons]
    generalize rd_T44 l (i : Int) = x
    by_cases h3 : x.f0 = 3
    · rw [if_pos h3]
      cases helloB a6 a7 x <;> simp [h3]
    · rw [if_neg h3]
      simp [h3]
theorem spec_l0 (a0 a1 a2 a3 a4 a5 a6 a7 : Int) (l8 l9 l10 : List He) (h8 : l8.length ≤ 1048576) (h9 : l9.length ≤ 300) (h10 : l10.length ≤ 300) : ∀ (d k i : Nat), i + d = l8.length → d + 700 < k → spec_GoodGreet.l0 k l8 (l8.length : Int) (i : Int) a0 a1 a2 a3 a4 a5 a6 a7 l8 l9 l10 = some (!bad1 a6 a7 (l8.drop i) && !bad2 a6 a7 (l9 ++ l10)) := by
  intro d
  induction d with
  | zero =>
    intro k i h hk
    obtain ⟨k, rfl⟩ := round (d := 0) (k := k) (by omega)
    rw [spec_GoodGreet.l0, if_neg (by omega), List.drop_of_length_le (by omega)]
    simp only [Option.bind_some, List.nil_append, List.length_nil, Nat.zero_add]
    rw [if_pos (by omega), if_pos (by omega)]
    have hl : (l9 ++ l10).length ≤ 600 := by rw [List.length_append]; omega
    have := spec_l1 a0 a1 a2 a3 a4 a5 a6 a7 l8 l9 l10 (l9 ++ l10) (by omega) (l9 ++ l10).length k 0 (by omega) (by omega)
    rw [show ((0 : Nat) : Int) = 0 from rfl, List.drop_zero] at this
    rw [this]
    rfl
  | succ d ih =>
    intro k i h hk
    obtain ⟨k, rfl⟩ := round (d := 0) (k := k) (by omega)
    have e : ((i + 1 : Nat) : Int) = (i : Int) + 1 := by omega
    rw [spec_GoodGreet.l0, if_pos (by omega), if_pos (by omega), if_pos (by omega), l15Letter, Option.bind_some, wrap_id (x := (i : Int) + 1) (by omega) (by omega), ← e, ih k (i + 1) (by omega) (by omega), drop_rdHello l8 i (by omega)]
    unfold bad1
    rw [List.any_cons]
    cases helloB a6 a7 (rd_T44 l8 (i : Int)) <;> simp
def goodGr (a0 a1 a2 a3 a4 a5 a6 a7 : Int) (l8 l9 l10 : List He) : Bool :=
  inR 0 2 a0 && (inR 0 2 a1 && (inR 0 1000 a6 && (inR 0 1000 a7 && (decide (l8.length ≤ 30) && (decide (l9.length ≤ 300) && (decide (l10.length ≤ 300) && (ofB a2 a6 (a0 == 0) && (ofB a5 a7 (decide (a0 < 2)) && (ofB a4 a6 (a1 == 0) && (ofB a3 a7 (a1 == 0) && (!bad1 a6 a7 l8 && !bad2 a6 a7 (l9 ++ l10))))))))))))
theorem spec_goodGr (a0 a1 a2 a3 a4 a5 a6 a7 : Int) (l8 l9 l10 : List He) (k : Nat) (hk : 1000 < k) : spec_GoodGreet.f k a0 a1 a2 a3 a4 a5 a6 a7 l8 l9 l10 = some (goodGr a0 a1 a2 a3 a4 a5 a6 a7 l8 l9 l10) := by
  obtain ⟨k, rfl⟩ : ∃ m, k = m + 1 + 1 := ⟨k - 2, by omega⟩
  unfold spec_GoodGreet.f goodGr
  simp only [spec_in, inR_dec, Option.bind_some, spec_GoodGreet.j0, spec_GoodGreet.j1, l15Of, if_true]
  cases inR 0 2 a0 with
  | false => rfl
  | true =>
    cases inR 0 2 a1 with
    | false => rfl
    | true =>
      cases inR 0 1000 a6 with
      | false => rfl
      | true =>
        cases inR 0 1000 a7 with
        | false => rfl
        | true =>
          simp only [if_true, Bool.true_and]
          by_cases h8 : (l8.length : Int) > 30
          · rw [if_pos h8, decide_eq_false (show ¬ l8.length ≤ 30 by omega)]
            rfl
          · rw [if_neg h8, decide_eq_true (show l8.length ≤ 30 by omega)]
            by_cases h9 : (l9.length : Int) > 300
            · rw [if_pos h9, decide_eq_false (show ¬ l9.length ≤ 300 by omega)]
              rfl
            · rw [if_neg h9, decide_eq_true (show l9.length ≤ 300 by omega)]
              by_cases h10 : (l10.length : Int) > 300
              · rw [decide_eq_true h10, decide_eq_false (show ¬ l10.length ≤ 300 by omega), if_pos rfl]
                rfl
              · rw [decide_eq_false h10, decide_eq_true (show l10.length ≤ 300 by omega), if_neg (by decide)]
                have := spec_l0 a0 a1 a2 a3 a4 a5 a6 a7 l8 l9 l10 (by omega) (by omega) (by omega) l8.length k 0 (by omega) (by omega)
                rw [show ((0 : Nat) : Int) = 0 from rfl, List.drop_zero] at this
                rw [this]
                generalize (!bad1 a6 a7 l8 && !bad2 a6 a7 (l9 ++ l10)) = B
                cases ofB a2 a6 (a0 == 0) <;> cases ofB a5 a7 (decide (a0 < 2)) <;> cases ofB a4 a6 (a1 == 0) <;> cases ofB a3 a7 (a1 == 0) <;> cases B <;> rfl
def oneB (a0 a2 a5 a6 a7 : Int) : Bool := if a0 = 0 then a2 == 0 && a5 == 0 else if a0 = 1 then inR 1 a6 a2 && a5 == 0 else if a0 = 2 then inR 1 a6 a2 && inR 1 a7 a5 else false
def twoB (a1 a3 a4 a6 a7 : Int) : Bool := if a1 = 0 then a4 == 0 && a3 == 0 else if a1 = 1 then inR 1 a6 a4 && inR 1 a7 a3 else if a1 = 2 then inR 1 a6 a4 && inR 1 a7 a3 else false
theorem impl_j2 (a0 a1 a2 a3 a4 a5 a6 a7 : Int) (l8 l9 l10 : List He) (h9 : l9.length ≤ 300) (h10 : l10.length ≤ 300) (one q : Bool) (k : Nat) : impl_GoodGreet.j2 (k + 1) one false q a0 a1 a2 a3 a4 a5 a6 a7 l8 l9 l10 = some (one && (q && (inR 1 a6 a4 && inR 1 a7 a3)) && (!bad1 a6 a7 l8 && !bad2 a6 a7 (l9 ++ l10))) := by
  rw [impl_GoodGreet.j2]
  unfold impl_Hello_27.f impl_Hello_28.f impl_Hello_35.f
  have ef : [l9, l10].flatten = l9 ++ l10 := by simp
  have el : (l9 ++ l10).length ≤ 1099511627776 := by rw [List.length_append]; omega
  rw [ef, if_pos el]
  simp only [Option.bind_some, if_true, show ¬ ((2 : Int) = 1) by decide, if_false]
  change _ = some (one && (q && (inR 1 a6 a4 && inR 1 a7 a3)) && (!(l8.any fun x => !helloB a6 a7 x) && !((l9 ++ l10).any fun x => x.f0 != 3 || !helloB a6 a7 x)))
  generalize (inR 1 a6 a4 && inR 1 a7 a3) = G
  generalize (l8.any fun x => !helloB a6 a7 x) = B1
  generalize ((l9 ++ l10).any fun x => x.f0 != 3 || !helloB a6 a7 x) = B2
  cases q <;> cases one <;> cases G <;> cases B1 <;> cases B2 <;> rfl
theorem impl_j1 (a0 a1 a2 a3 a4 a5 a6 a7 : Int) (l8 l9 l10 : List He) (h9 : l9.length ≤ 300) (h10 : l10.length ≤ 300) (one : Bool) (k : Nat) : impl_GoodGreet.j1 (k + 1 + 1) one false a0 a1 a2 a3 a4 a5 a6 a7 l8 l9 l10 = some (one && twoB a1 a3 a4 a6 a7 && (!bad1 a6 a7 l8 && !bad2 a6 a7 (l9 ++ l10))) := by
  rw [impl_GoodGreet.j1, impl_j2 a0 a1 a2 a3 a4 a5 a6 a7 l8 l9 l10 h9 h10, impl_j2 a0 a1 a2 a3 a4 a5 a6 a7 l8 l9 l10 h9 h10]
  unfold impl_Hello_27.f impl_Hello_28.f
  have ef : [l9, l10].flatten = l9 ++ l10 := by simp
  have el : (l9 ++ l10).length ≤ 1099511627776 := by rw [List.length_append]; omega
  rw [ef, if_pos el]
  simp only [Option.bind_some, if_true, show ¬ ((2 : Int) = 1) by decide, if_false]
  change _ = some (one && twoB a1 a3 a4 a6 a7 && (!(l8.any fun x => !helloB a6 a7 x) && !((l9 ++ l10).any fun x => x.f0 != 3 || !helloB a6 a7 x)))
  unfold bad1 bad2 twoB
  generalize (l8.any fun x => !helloB a6 a7 x) = B1
  generalize ((l9 ++ l10).any fun x => x.f0 != 3 || !helloB a6 a7 x) = B2
  generalize (inR 1 a6 a4 && inR 1 a7 a3) = G
  by_cases h0 : a1 = 0
  · simp only [h0, if_true]
    by_cases h4 : a4 = 0
    · by_cases h3 : a3 = 0
      · simp only [h4, h3, if_true]
        cases one <;> cases B1 <;> cases B2 <;> rfl
      · have : (a3 == 0) = false := by simpa using h3
        simp only [h4, h3, if_true, if_false, this]
        cases one <;> cases B1 <;> cases B2 <;> rfl
    · have : (a4 == 0) = false := by simpa using h4
      simp only [h4, if_false, this]
      cases one <;> cases B1 <;> cases B2 <;> rfl
  · by_cases h1 : a1 = 1
    · simp only [h1, if_true, show ¬ ((1 : Int) = 0) by decide, if_false, beq_self_eq_true, Bool.true_and]
    · by_cases h2 : a1 = 2
      · simp only [h2, if_true, show ¬ ((2 : Int) = 0) by decide, show ¬ ((2 : Int) = 1) by decide, if_false, beq_self_eq_true, Bool.true_and]
      · have : (a1 == 2) = false := by simpa using h2
        simp only [h0, h1, h2, if_false, this]
        cases one <;> cases B1 <;> cases B2 <;> rfl
theorem impl_goodGr (a0 a1 a2 a3 a4 a5 a6 a7 : Int) (l8 l9 l10 : List He) (k : Nat) (hk : 1000 < k) : impl_GoodGreet.f k a0 a1 a2 a3 a4 a5 a6 a7 l8 l9 l10 = some (goodGr a0 a1 a2 a3 a4 a5 a6 a7 l8 l9 l10) := by
  obtain ⟨k, rfl⟩ : ∃ m, k = m + 1 + 1 + 1 := ⟨k - 3, by omega⟩
  unfold impl_GoodGreet.f goodGr
  simp only [impl_in_, inR_dec, Option.bind_some, impl_GoodGreet.j0, if_true]
  cases inR 0 1000 a6 with
  | false => simp
  | true =>
    cases inR 0 1000 a7 with
    | false => simp
    | true =>
      simp only [if_true, Bool.true_and]
      by_cases h8 : (l8.length : Int) > 30
      · rw [if_pos h8, decide_eq_false (show ¬ l8.length ≤ 30 by omega)]
        simp
      · rw [if_neg h8, decide_eq_true (show l8.length ≤ 30 by omega)]
        by_cases h9 : (l9.length : Int) > 300
        · rw [if_pos h9, decide_eq_false (show ¬ l9.length ≤ 300 by omega)]
          simp
        · rw [if_neg h9, decide_eq_true (show l9.length ≤ 300 by omega)]
          by_cases h10 : (l10.length : Int) > 300
          · rw [decide_eq_true h10, decide_eq_false (show ¬ l10.length ≤ 300 by omega), if_pos rfl]
            simp
          · rw [decide_eq_false h10, decide_eq_true (show l10.length ≤ 300 by omega), if_neg (by decide)]
            simp only [impl_j1 a0 a1 a2 a3 a4 a5 a6 a7 l8 l9 l10 (by omega) (by omega)]
            unfold impl_Hello_35.f
            simp only [Option.bind_some, if_true, Bool.true_and]
            generalize (!bad1 a6 a7 l8 && !bad2 a6 a7 (l9 ++ l10)) = B
            have hT : (inR 0 2 a1 && (ofB a4 a6 (a1 == 0) && ofB a3 a7 (a1 == 0))) = twoB a1 a3 a4 a6 a7 := by
              unfold twoB ofB
              by_cases g0 : a1 = 0
              · simp [g0, inR]
              · have e0 : (a1 == 0) = false := by simpa using g0
                by_cases g1 : a1 = 1
                · simp [g1, inR]
                · by_cases g2 : a1 = 2
                  · simp [g2, inR]
                  · have : inR 0 2 a1 = false := by unfold inR; rw [decide_eq_false (by omega)]
                    simp [this, g0, g1, g2]
            have hO : (inR 0 2 a0 && (ofB a2 a6 (a0 == 0) && ofB a5 a7 (decide (a0 < 2)))) = oneB a0 a2 a5 a6 a7 := by
              unfold oneB ofB
              by_cases g0 : a0 = 0
              · simp [g0, inR]
              · have e0 : (a0 == 0) = false := by simpa using g0
                by_cases g1 : a0 = 1
                · simp [g1, inR]
                · by_cases g2 : a0 = 2
                  · simp [g2, inR]
                  · have : inR 0 2 a0 = false := by unfold inR; rw [decide_eq_false (by omega)]
                    simp [this, g0, g1, g2]
            have hR : (inR 0 2 a0 && (inR 0 2 a1 && (ofB a2 a6 (a0 == 0) && (ofB a5 a7 (decide (a0 < 2)) && (ofB a4 a6 (a1 == 0) && (ofB a3 a7 (a1 == 0) && B)))))) = (oneB a0 a2 a5 a6 a7 && twoB a1 a3 a4 a6 a7 && B) := by
              rw [← hT, ← hO]
              cases inR 0 2 a0 <;> cases inR 0 2 a1 <;> cases ofB a2 a6 (a0 == 0) <;> cases ofB a5 a7 (decide (a0 < 2)) <;> cases ofB a4 a6 (a1 == 0) <;> cases ofB a3 a7 (a1 == 0) <;> cases B <;> rfl
            rw [hR]
            generalize twoB a1 a3 a4 a6 a7 = T
            unfold oneB
            by_cases g0 : a0 = 0
            · simp only [g0, if_true]
              by_cases g2 : a2 = 0
              · simp only [g2, if_true, beq_self_eq_true, Bool.true_and]
              · have : (a2 == 0) = false := by simpa using g2
                simp only [g2, if_false, this, Bool.false_and]
            · by_cases g1 : a0 = 1
              · simp only [g1, if_true, show ¬ ((1 : Int) = 0) by decide, if_false]
                cases inR 1 a6 a2 <;> simp
              · by_cases g2 : a0 = 2
                · simp only [g2, if_true, show ¬ ((2 : Int) = 0) by decide, show ¬ ((2 : Int) = 1) by decide, if_false]
                · simp only [g0, g1, g2, if_false, Bool.false_and]

end Go.Proofs.Ytlmokpmdodoihaa.Pure

namespace Go.Proofs.Ytlmokpmdodoihaa.Pure
open Go.RowKit Go.Proofs.Ytlmokpmdodoihaa.P Go.Proofs.YtlmokpmdodoihaaW.PrintWords Go.Proofs.YtlmokpmdodoihaaW.PrintLast Go.Proofs.Ytlmokpmdodoihaa.Opn
set_option linter.unusedVariables false
set_option linter.unusedSimpArgs false

theorem both_open (a0 a1 a2 a3 a4 a5 a6 a7 : Int) (l8 l9 l10 : List He) (k : Nat) (hk : 1000 < k) : ∃ q, spec_BothOpen.f k a0 a1 a2 a3 a4 a5 a6 a7 l8 l9 l10 = some q ∧ impl_BothOpen.f k a0 a1 a2 a3 a4 a5 a6 a7 l8 l9 l10 = some q := by
  unfold spec_BothOpen.f impl_BothOpen.f
  rw [spec_goodGr a0 a1 a2 a3 a4 a5 a6 a7 l8 l9 l10 k hk, impl_goodGr a0 a1 a2 a3 a4 a5 a6 a7 l8 l9 l10 k hk, Option.bind_some]
  split
  · split
    · split
      · split <;> exact ⟨_, rfl, rfl⟩
      · exact ⟨_, rfl, rfl⟩
    · exact ⟨_, rfl, rfl⟩
  · exact ⟨_, rfl, rfl⟩
theorem FnExactBothOpen : laws_FnExactBothOpen.Pure := by
  intro a0 a1 a2 a3 a4 a5 a6 a7 l8 l9 l10 _ _ _ _ _ _ _ _ h8 h9 h10
  obtain ⟨k, hk⟩ : ∃ k : Nat, 3000000 < k := ⟨3000001, by omega⟩
  refine ⟨k + 1, ?_⟩
  obtain ⟨v, e, hv⟩ := szGreet a0 a1 a2 a3 a4 a5 a6 a7 l8 l9 l10 h8.1 h9.1 h10.1
  unfold laws_FnExactBothOpen.f
  rw [e, Option.bind_some]
  by_cases hs : v < 0
  · rw [if_pos hs]
  · obtain ⟨g8, g9, g10⟩ := hv (by omega)
    have m8 : (l8.map cvHello).length ≤ 1048576 := by rw [List.length_map]; exact g8
    have m9 : (l9.map cvHello).length ≤ 1048576 := by rw [List.length_map]; exact g9
    have m10 : (l10.map cvHello).length ≤ 1048576 := by rw [List.length_map]; exact g10
    rw [if_neg hs]
    obtain ⟨q, q1, q2⟩ := both_open a0 a1 a2 a3 a4 a5 a6 a7 (l8.map cvHello) (l9.map cvHello) (l10.map cvHello) (k + 1) (by omega)
    simp only [toGreet a0 a1 a2 a3 a4 a5 a6 a7 l8 l9 l10 g8 g9 g10 (k + 1) (by omega), Option.bind_some, q1, q2, bne_self_eq_false, Bool.false_eq_true, if_false]
    rw [laws_FnExactBothOpen.j0]
    simp only [Bool.false_eq_true, if_false, toGreet a0 a1 a2 a3 a4 a5 a6 a7 l8 l9 l10 g8 g9 g10 k (by omega), Option.bind_some, eqGreet a0 a1 a2 a3 a4 a5 a6 a7 _ _ _ m8 m9 m10 k (by omega), if_true]

end Go.Proofs.Ytlmokpmdodoihaa.Pure

namespace Go.Proofs.Ytlmokpmdodoihaa.fnExactBothOpen
open Go.ChangeShapes Go.WideShapes Go.ChangeAt Go.RowKit Go.Proofs.Ytlmokpmdodoihaa.P Go.Proofs.Ytlmokpmdodoihaa.Opn Go.Proofs.YtlmokpmdodoihaaW.PrintWords
open Go.ChangeMaps (open_string shut_string)
set_option linter.unusedVariables false
theorem own : ownKnob Try.prog.godebug = none := by kernel_rfl
theorem laidOut : laidOutB Try.prog = true := by kernel_rfl
set_option maxRecDepth 100000 in
theorem lifted (os : Os) (started : os.Started) (H : Type) (enc : TypeId × Value → H) :
    ReturnsInHanded {} Try.checked os 5 .any (Rows.fnExactBothOpenSpec.pre6 enc Try.prog Try.f5 Rows.fnExactBothOpenRow.domain false) (Rows.fnExactBothOpenSpec.post enc Try.prog Try.f5 false true false false) := by
  refine returnsInHanded_of_change_sized (C := Try.checked) own started (by kernel_rfl) Try.func5
    (ChangeSpec.witness6 (enc := enc) (C := Try.checked) false ⟨#[], #[.agg #[.int .i64 0, .int .i64 0, .int .i64 0, .int .i64 0, .int .i64 0, .int .i64 0, .int .i64 0, .int .i64 0, .slice none 0 0, .slice none 0 0, .slice none 0 0]], []⟩ 8 (by kernel_rfl) (by kernel_rfl) (by kernel_rfl) (by kernel_rfl)) ?_
  intro W base args ds gs before hval0 hW hcnd hsz0 _
  have hval : ∀ (j : Nat) t v, Try.f5.params[j]? = some t → args[j]? = some v → Value.okWide Try.prog W .any base t v := hval0
  have hW' := hW
  obtain ⟨p, q, hA0, hV, rfl, hfz, hnd⟩ := hW
  have hA : DataW.TrodAll enc Try.prog W 0 (fun _ => true) true Try.f5.params.toList args.toList ds p := hA0
  rw [Try.params5] at hA hval
  obtain ⟨v0, vs0, d0, ds0, p0, q0, hargs, rfl, rfl, h0, r0⟩ := trodAll_cons hA
  obtain ⟨rfl, rfl, rfl⟩ := trodAll_nil r0
  obtain rfl : args = #[v0] := by cases args; simp_all
  obtain ⟨rfl, rfl⟩ := trodVars_none hV
  have k0 := h0
  have lt0 : ∀ x ∈ p0, x.block < W.heap.size := by obtain ⟨m, hm⟩ := k0; exact DataW.trod_lt m _ _ _ hm
  obtain ⟨fuel0, hf0⟩ := h0
  obtain ⟨y0, hK0, hw0⟩ := opens31.out enc W fuel0 _ _ hf0
  obtain ⟨cs0, rfl, _⟩ := okWide_struct Try.underlying31 (hval 0 31 v0 rfl rfl)
  obtain ⟨A0_8, c0_8, A0_9, c0_9, A0_10, c0_10, hcs0, hc0_8, hr0_8, hc0_9, hr0_9, hc0_10, hr0_10⟩ := k31_open hK0
  obtain rfl : cs0 = #[.int .i64 y0.f0, .int .i64 y0.f1, .int .i64 y0.f2, .int .i64 y0.f3, .int .i64 y0.f4, .int .i64 y0.f5, .int .i64 y0.f6, .int .i64 y0.f7, .slice A0_8 y0.f8.length c0_8, .slice A0_9 y0.f9.length c0_9, .slice A0_10 y0.f10.length c0_10] := by simpa [Value.cells, ← Array.toList_inj] using hcs0
  obtain ⟨k_, hP⟩ := Pure.FnExactBothOpen y0.f0 y0.f1 y0.f2 y0.f3 y0.f4 y0.f5 y0.f6 y0.f7 y0.f8 y0.f9 y0.f10 hw0.1 hw0.2.1 hw0.2.2.1 hw0.2.2.2.1 hw0.2.2.2.2.1 hw0.2.2.2.2.2.1 hw0.2.2.2.2.2.2.1 hw0.2.2.2.2.2.2.2.1 hw0.2.2.2.2.2.2.2.2.1 hw0.2.2.2.2.2.2.2.2.2.1 hw0.2.2.2.2.2.2.2.2.2.2
  refine (laws_FnExactBothOpen.calls k_ y0.f0 y0.f1 y0.f2 y0.f3 y0.f4 y0.f5 y0.f6 y0.f7 _ _ y0.f8 _ _ y0.f9 _ _ y0.f10 true W hr0_8 hc0_8 hr0_9 hc0_9 hr0_10 hc0_10 hP).mono fun e W' he => ?_
  obtain ⟨rfl, hd⟩ := he
  have bel : Below W.heap.size W W' := hd
  exact ⟨_, rfl, _, _, _, [], _, [], hW', trodAll_mk1 (shut_bool Try.underlying4 _), (trodAll_cons_mk (Below.trod laidOut (by kernel_rfl) (of_decide_eq_true (by kernel_rfl)) k0 bel lt0) trodAll_mk0), rfl, bel.frame _, fun h => by cases h⟩
theorem over : Rows.fnExactBothOpenRow.holds Try.pinned (OpenSpec.ofChange Rows.fnExactBothOpenSpec) :=
  OpenClaim.holds_of_wide 5 Try.f5 rfl rfl rfl rfl rfl rfl rfl ⟨rfl, rfl, rfl, rfl, rfl⟩ rfl rfl rfl rfl rfl (by kernel_rfl) Try.func5 (by kernel_rfl)
    (of_decide_eq_true (by kernel_rfl)) (by unfold Func.isWrapper; first | (rw [if_pos (by decide +kernel)]; kernel_rfl) | (rw [if_neg (by decide +kernel)]; exact ⟨rfl, rfl⟩))
    (fun os started H enc _ => lifted os started H enc)
end Go.Proofs.Ytlmokpmdodoihaa.fnExactBothOpen
namespace Go.Proofs.Ytlmokpmdodoihaa
/-- The row. -/
theorem fnExactBothOpen_holds : Rows.FnExactBothOpenSaid := fnExactBothOpen.over
#print axioms fnExactBothOpen_holds
end Go.Proofs.Ytlmokpmdodoihaa
