/- FnExactOpenIn: for every input that can be read, the law returns true and its arguments read as before. Conditions: none beyond the row's own. (Part 4 of 4: contracts made by pw.py with the kit's print, contracts by hand, plain laws, the row.) -/
import Derived.Test.YtligcknlmbgbiaaMFnExactOpenIn2
import Derived.Test.YtligcknlmbgbiaaRows
import Derived.WalkKit
import Derived.ProofKit
import Derived.OpenShut
import Derived.ShutString
import Derived.ChangeOld
import Derived.Below
import Derived.SizedLaws
import Derived.Carry

namespace Go.Proofs.Ytligcknlmbgbiaa.Pure
open Go.RowKit Go.Proofs.Ytligcknlmbgbiaa.P Go.Proofs.YtligcknlmbgbiaaW.PrintWords Go.Proofs.YtligcknlmbgbiaaW.PrintLast Go.Proofs.Ytligcknlmbgbiaa.Opn
set_option linter.unusedVariables false
set_option linter.unusedSimpArgs false

theorem szSender_ok (a : Int) (l1 : List S62) (l2 : List Int) (h : (l1.length : Int) + l2.length ≤ 1048576) : laws_szSender.f a l1 l2 1048576 = some (1048576 - (l1.length : Int) - (l2.length : Int)) := by
  unfold laws_szSender.f
  rw [szSpanS_ok l1 _ (by omega) (by omega) (by omega), Option.bind_some, if_neg (by omega), szIntS l2 _ (by omega) (by omega) (by omega), if_pos (by omega), Option.bind_some, if_neg (by omega)]
theorem szSender_big (a : Int) (l1 : List S62) (l2 : List Int) (h1 : l1.length ≤ 9223372036854775807) (h2 : l2.length ≤ 9223372036854775807) (h : ¬ (l1.length : Int) + l2.length ≤ 1048576) : laws_szSender.f a l1 l2 1048576 = some (-1) := by
  unfold laws_szSender.f
  by_cases hc : (l1.length : Int) ≤ 1048576
  · rw [szSpanS_ok l1 _ (by omega) (by omega) (by omega), Option.bind_some, if_neg (by omega), szIntS l2 _ (by omega) (by omega) h2, if_neg (by omega), Option.bind_some, if_pos (by omega)]
  · rw [szSpanS_big l1 _ (by omega) (by omega) h1 (by omega), Option.bind_some, if_pos (by omega)]
theorem toSender (a : Int) (l1 : List S62) (l2 : List Int) (h1 : l1.length ≤ 1048576) (h2 : l2.length ≤ 1048576) (k : Nat) (hk1 : l1.length < k) (hk2 : l2.length < k) : laws_toSender.f k a l1 l2 = some (a, l1.map cvSpan, l2) := by
  unfold laws_toSender.f
  rw [toSpanS l1 h1 k hk1, Option.bind_some, toIntS l2 h2 k hk2, Option.bind_some]
theorem eqSender (a : Int) (l1 : List Sp) (l2 : List Int) (h1 : l1.length ≤ 1048576) (h2 : l2.length ≤ 1048576) (k : Nat) (hk1 : l1.length < k) (hk2 : l2.length < k) : laws_eqSender.f k a l1 l2 a l1 l2 = some true := by
  unfold laws_eqSender.f
  rw [if_pos rfl, eqSpanS l1 h1 k hk1, Option.bind_some, if_pos rfl, eqIntS l2 l2 h2 k hk2, Option.bind_some]
  simp
def risOk (m : Int) : Option Int → List Int → Bool
  | _, [] => true
  | p, x :: l => decide (0 ≤ x ∧ x ≤ m) && (aft p x && risOk m (some x) l)
def pvI (l : List Int) (i : Nat) : Option Int := if i = 0 then none else some (rd l ((i - 1 : Nat) : Int))
theorem pvI_succ (l : List Int) (i : Nat) : pvI l (i + 1) = some (rd l (i : Int)) := by simp [pvI]
theorem rising_l0 (l : List Int) (a : Int) (hn : l.length ≤ 1048576) : ∀ (d k i : Nat), i + d = l.length → d < k → spec_l11Rising.l0 k l a l (l.length : Int) (i : Int) = some (risOk (wrap64 (a - 1)) (pvI l i) (l.drop i)) := by
  intro d
  induction d with
  | zero =>
    intro k i h hk
    obtain ⟨k, rfl⟩ := round hk
    rw [spec_l11Rising.l0, if_neg (by omega), List.drop_of_length_le (by omega)]
    rfl
  | succ d ih =>
    intro k i h hk
    obtain ⟨k, rfl⟩ := round hk
    have := ih k (i + 1) (by omega) (by omega)
    rw [spec_l11Rising.l0, if_pos (by omega), if_pos (by omega), if_pos (by omega), spec_in, Option.bind_some, drop_rd l i (by omega), risOk, wrap_id (x := (i : Int) + 1) (by omega) (by omega)]
    have e : ((i + 1 : Nat) : Int) = (i : Int) + 1 := by omega
    rw [pvI_succ, e] at this
    rw [this]
    by_cases hs : 0 ≤ rd l (i : Int) ∧ rd l (i : Int) ≤ wrap64 (a - 1)
    · rw [if_pos (by simpa using hs)]
      by_cases h0 : i = 0
      · subst h0
        simp only [hs, and_self, decide_true, Bool.true_and]
        simp [pvI, aft]
      · have e1 : wrap64 ((i : Int) - 1) = ((i - 1 : Nat) : Int) := by rw [wrap_id (by omega) (by omega)]; omega
        rw [if_pos (by omega), e1, if_pos (by omega), if_pos (by omega)]
        unfold pvI
        rw [if_neg h0]
        simp only [hs, and_self, decide_true, Bool.true_and, aft]
        by_cases hq : rd l ((i - 1 : Nat) : Int) ≥ rd l (i : Int)
        · rw [if_pos hq]
          have : ¬ rd l ((i - 1 : Nat) : Int) < rd l (i : Int) := by omega
          simp [this]
        · rw [if_neg hq]
          have : rd l ((i - 1 : Nat) : Int) < rd l (i : Int) := by omega
          simp [this]
    · rw [if_neg (by simpa using hs)]
      simp [hs]
theorem spec_rising (l : List Int) (a : Int) (hn : l.length ≤ 1048576) (k : Nat) (hk : l.length < k) : spec_l11Rising.f k l a = some (risOk (wrap64 (a - 1)) none l) := by
  unfold spec_l11Rising.f
  have := rising_l0 l a hn l.length k 0 (by omega) hk
  simpa [pvI] using this
theorem specSender_l0 (a : Int) (l1 : List Sp) (l : List Int) (h1 : l1.length ≤ 1048576) (hn : l.length ≤ 1048576) : ∀ (d k i : Nat), i + d = l.length → d + l1.length + 1 < k → spec_GoodSender.l0 k l (l.length : Int) (i : Int) a l1 l = some ((l.drop i).all (fun n => !l1.any (inSpan n))) := by
  intro d
  induction d with
  | zero =>
    intro k i h hk
    obtain ⟨k, rfl⟩ := round hk
    rw [spec_GoodSender.l0, if_neg (by omega), List.drop_of_length_le (by omega)]
    rfl
  | succ d ih =>
    intro k i h hk
    obtain ⟨k, rfl⟩ := round hk
    have := ih k (i + 1) (by omega) (by omega)
    have e : ((i + 1 : Nat) : Int) = (i : Int) + 1 := by omega
    rw [e] at this
    rw [spec_GoodSender.l0, if_pos (by omega), if_pos (by omega), if_pos (by omega), l2Has l1 _ h1 k (by omega), Option.bind_some, drop_rd l i (by omega), List.all_cons, wrap_id (x := (i : Int) + 1) (by omega) (by omega), this]
    cases l1.any (inSpan (rd l (i : Int))) <;> simp
theorem implSender_l0 (a : Int) (l1 : List Sp) (l : List Int) (h1 : l1.length ≤ 1048576) (hn : l.length ≤ 1048576) : ∀ (d k i : Nat), i + d = l.length → d < k → impl_GoodSender.l0 k l (l.length : Int) (i : Int) a l1 l = some (risOk (wrap64 (a - 1)) (pvI l i) (l.drop i) && (l.drop i).all (fun n => !l1.any (inSpan n))) := by
  intro d
  induction d with
  | zero =>
    intro k i h hk
    obtain ⟨k, rfl⟩ := round hk
    rw [impl_GoodSender.l0, if_neg (by omega), List.drop_of_length_le (by omega)]
    rfl
  | succ d ih =>
    intro k i h hk
    obtain ⟨k, rfl⟩ := round hk
    have := ih k (i + 1) (by omega) (by omega)
    have e : ((i + 1 : Nat) : Int) = (i : Int) + 1 := by omega
    rw [pvI_succ, e] at this
    rw [impl_GoodSender.l0, if_pos (by omega), if_pos (by omega), if_pos (by omega), impl_in_, Option.bind_some, drop_rd l i (by omega), List.all_cons, risOk, wrap_id (x := (i : Int) + 1) (by omega) (by omega), this]
    unfold impl_has.f
    simp only [Option.bind_some]
    by_cases hs : 0 ≤ rd l (i : Int) ∧ rd l (i : Int) ≤ wrap64 (a - 1)
    · rw [if_pos (by simpa using hs)]
      simp only [hs, and_self, decide_true, Bool.true_and]
      cases hh : l1.any (inSpan (rd l (i : Int))) with
      | true => simp
      | false =>
        rw [if_neg (by simp)]
        by_cases h0 : i = 0
        · subst h0
          simp [pvI, aft]
        · have e1 : wrap64 ((i : Int) - 1) = ((i - 1 : Nat) : Int) := by rw [wrap_id (by omega) (by omega)]; omega
          rw [if_pos (by omega), e1, if_pos (by omega), if_pos (by omega)]
          unfold pvI
          rw [if_neg h0]
          simp only [aft]
          by_cases hq : rd l (i : Int) ≤ rd l ((i - 1 : Nat) : Int)
          · rw [if_pos hq]
            have : ¬ rd l ((i - 1 : Nat) : Int) < rd l (i : Int) := by omega
            simp [this]
          · rw [if_neg hq]
            have : rd l ((i - 1 : Nat) : Int) < rd l (i : Int) := by omega
            simp [this]
    · rw [if_neg (by simpa using hs)]
      simp [hs]
def goodSe (a : Int) (l1 : List Sp) (l : List Int) : Bool := decide (0 ≤ a ∧ a ≤ 60) && (belowSp l1 a && (risOk (wrap64 (a - 1)) none l && l.all (fun n => !l1.any (inSpan n))))
theorem spec_goodSe (a : Int) (l1 : List Sp) (l : List Int) (h1 : l1.length ≤ 1048576) (hn : l.length ≤ 1048576) (k : Nat) (hk : l.length + l1.length + 2 < k) : spec_GoodSender.f k a l1 l = some (goodSe a l1 l) := by
  obtain ⟨k, rfl⟩ := round hk
  unfold spec_GoodSender.f goodSe
  have h0 := specSender_l0 a l1 l h1 hn l.length k 0 (by omega) (by omega)
  have h0' : spec_GoodSender.l0 k l (l.length : Int) 0 a l1 l = some (l.all (fun n => !l1.any (inSpan n))) := by simpa using h0
  simp only [spec_in, Option.bind_some, spec_below l1 a h1 (k + 1) (by omega), spec_rising l a hn (k + 1) (by omega), spec_GoodSender.j0, h0', if_true]
  by_cases h : 0 ≤ a ∧ a ≤ 60
  · simp only [h, and_self, decide_true, if_true, Bool.true_and]
    cases belowSp l1 a <;> cases risOk (wrap64 (a - 1)) none l <;> simp
  · simp [h]
theorem impl_goodSe (a : Int) (l1 : List Sp) (l : List Int) (h1 : l1.length ≤ 1048576) (hn : l.length ≤ 1048576) (k : Nat) (hk : l.length + l1.length + 2 < k) : impl_GoodSender.f k a l1 l = some (goodSe a l1 l) := by
  obtain ⟨k, rfl⟩ := round hk
  unfold impl_GoodSender.f goodSe
  have h0 := implSender_l0 a l1 l h1 hn l.length k 0 (by omega) (by omega)
  have h0' : impl_GoodSender.l0 k l (l.length : Int) 0 a l1 l = some (risOk (wrap64 (a - 1)) none l && l.all (fun n => !l1.any (inSpan n))) := by simpa [pvI] using h0
  simp only [impl_in_, Option.bind_some, impl_below l1 a h1 (k + 1) (by omega), impl_GoodSender.j0, h0', if_true]
  by_cases h : 0 ≤ a ∧ a ≤ 60
  · simp only [h, and_self, decide_true, if_true, Bool.true_and]
    cases belowSp l1 a <;> simp
  · simp [h]

end Go.Proofs.Ytligcknlmbgbiaa.Pure

namespace Go.Proofs.Ytligcknlmbgbiaa.Pure
open Go.RowKit Go.Proofs.Ytligcknlmbgbiaa.P Go.Proofs.YtligcknlmbgbiaaW.PrintWords Go.Proofs.YtligcknlmbgbiaaW.PrintLast Go.Proofs.Ytligcknlmbgbiaa.Opn
set_option linter.unusedVariables false
set_option linter.unusedSimpArgs false

theorem l1Has_l0 (l : List Int) (a : Int) (hn : l.length ≤ 1048576) : ∀ (d k i : Nat), i + d = l.length → d < k → spec_l1Has.l0 k a l (l.length : Int) (i : Int) = some (decide (a ∈ l.drop i)) := by
  intro d
  induction d with
  | zero =>
    intro k i h hk
    obtain ⟨k, rfl⟩ := round hk
    simp only [spec_l1Has.l0]
    rw [if_neg (by omega), List.drop_of_length_le (by omega)]
    simp
  | succ d ih =>
    intro k i h hk
    obtain ⟨k, rfl⟩ := round hk
    simp only [spec_l1Has.l0]
    rw [if_pos (by omega), if_pos (by omega), if_pos (by omega), drop_rd l i (by omega)]
    by_cases hc : rd l (i : Int) = a
    · rw [if_pos hc]
      simp [hc]
    · rw [if_neg hc, wrap_id (by omega) (by omega)]
      have := ih k (i + 1) (by omega) (by omega)
      have hc' : ¬ a = rd l (i : Int) := fun e => hc e.symm
      simpa [hc'] using this
theorem l1Has (l : List Int) (a : Int) (hn : l.length ≤ 1048576) (k : Nat) (hk : l.length < k) : spec_l1Has.f k l a = some (decide (a ∈ l)) := by
  unfold spec_l1Has.f
  have := l1Has_l0 l a hn l.length k 0 (by omega) hk
  simpa using this
theorem index_l0 (l : List Int) (a : Int) (hn : l.length ≤ 1048576) : ∀ (d k i : Nat), i + d = l.length → d < k → ∃ r, slices_Index_int_int.l0 k l a (l.length : Int) (i : Int) = some r ∧ decide (r ≥ 0) = decide (a ∈ l.drop i) := by
  intro d
  induction d with
  | zero =>
    intro k i h hk
    obtain ⟨k, rfl⟩ := round hk
    refine ⟨-1, ?_, ?_⟩
    · simp only [slices_Index_int_int.l0]
      rw [if_neg (by omega)]
    · rw [List.drop_of_length_le (by omega)]
      simp
  | succ d ih =>
    intro k i h hk
    obtain ⟨k, rfl⟩ := round hk
    simp only [slices_Index_int_int.l0]
    rw [if_pos (by omega), if_pos (by omega), if_pos (by omega), drop_rd l i (by omega)]
    by_cases hc : a = rd l (i : Int)
    · rw [if_pos hc]
      exact ⟨i, rfl, by simp [hc]⟩
    · rw [if_neg hc, wrap_id (by omega) (by omega)]
      have := ih k (i + 1) (by omega) (by omega)
      simpa [hc] using this
theorem containsI (l : List Int) (a : Int) (hn : l.length ≤ 1048576) (k : Nat) (hk : l.length < k) : slices_Contains_int_int.f k l a = some (decide (a ∈ l)) := by
  unfold slices_Contains_int_int.f slices_Index_int_int.f
  obtain ⟨r, hr, hd⟩ := index_l0 l a hn l.length k 0 (by omega) hk
  have hr' : slices_Index_int_int.l0 k l a (l.length : Int) 0 = some r := by simpa using hr
  rw [hr', Option.bind_some, hd]
  simp

end Go.Proofs.Ytligcknlmbgbiaa.Pure

namespace Go.Proofs.Ytligcknlmbgbiaa.Pure
open Go.RowKit Go.Proofs.Ytligcknlmbgbiaa.P Go.Proofs.YtligcknlmbgbiaaW.PrintWords Go.Proofs.YtligcknlmbgbiaaW.PrintLast Go.Proofs.Ytligcknlmbgbiaa.Opn
set_option linter.unusedVariables false
set_option linter.unusedSimpArgs false

theorem markIntS_l0 (n : Nat) (a : Int) (ha : 0 ≤ a) (hb : a + n ≤ 1000000000) : ∀ (d k i : Nat) (y : List Int), i + d = n → d < k → y.length = n → y.take i = marks a i → laws_markIntS.l0 k y (a + i) (i : Int) = some (a + n, marks a n) := by
  intro d
  induction d with
  | zero =>
    intro k i y hi hk hy ht
    obtain ⟨k, rfl⟩ := round hk
    simp only [laws_markIntS.l0]
    rw [if_neg (by omega)]
    have : i = n := by omega
    subst this
    rw [← hy, List.take_length] at ht
    rw [ht, hy]
  | succ d ih =>
    intro k i y hi hk hy ht
    obtain ⟨k, rfl⟩ := round hk
    simp only [laws_markIntS.l0]
    rw [if_pos (by omega), if_pos (by omega), wrap_id (by omega) (by omega), wrap_id (by omega) (by omega), Int.toNat_natCast]
    have := ih k (i + 1) (y.set i (a + i)) (by omega) (by omega) (by simpa using hy) (by rw [take_set_succ _ _ (by omega), ht, marks_snoc])
    rw [show a + (i : Int) + 1 = a + ((i + 1 : Nat) : Int) by push_cast; omega]
    simpa using this
theorem markIntS (y : List Int) (a : Int) (ha : 0 ≤ a) (hb : a + y.length ≤ 1000000000) (k : Nat) (hk : y.length < k) : laws_markIntS.f k y a = some (a + y.length, marks a y.length) := by
  unfold laws_markIntS.f
  have := markIntS_l0 y.length a ha hb y.length k 0 y (by omega) hk rfl (by simp [marks])
  simpa using this
theorem heldIntS_l0 (n : Nat) (a : Int) (ha : 0 ≤ a) (hb : a + n ≤ 1000000000) : ∀ (d k i : Nat), i + d = n → d < k → laws_heldIntS.l0 k (marks a n) (a + i) (i : Int) = some (a + n) := by
  intro d
  induction d with
  | zero =>
    intro k i hi hk
    obtain ⟨k, rfl⟩ := round hk
    simp only [laws_heldIntS.l0]
    rw [if_neg (by rw [marks_length]; omega)]
    have : i = n := by omega
    subst this
    rfl
  | succ d ih =>
    intro k i hi hk
    obtain ⟨k, rfl⟩ := round hk
    simp only [laws_heldIntS.l0]
    rw [if_pos (by rw [marks_length]; omega), if_pos (by omega), marks_rd n a i (by omega), if_pos rfl, wrap_id (by omega) (by omega), wrap_id (by omega) (by omega)]
    have := ih k (i + 1) (by omega) (by omega)
    rw [show a + (i : Int) + 1 = a + ((i + 1 : Nat) : Int) by push_cast; omega]
    simpa using this
theorem heldIntS (n : Nat) (a : Int) (ha : 0 ≤ a) (hb : a + n ≤ 1000000000) (k : Nat) (hk : n < k) : laws_heldIntS.f k (marks a n) a = some (a + n) := by
  unfold laws_heldIntS.f
  have := heldIntS_l0 n a ha hb n k 0 (by omega) hk
  simpa using this

end Go.Proofs.Ytligcknlmbgbiaa.Pure

namespace Go.Proofs.Ytligcknlmbgbiaa.P
open Go.RowKit Go.Proofs.YtligcknlmbgbiaaW.PrintWords Go.Proofs.YtligcknlmbgbiaaW.PrintLast Go.Proofs.YtligcknlmbgbiaaW.PrintMore
attribute [local go_sem] max2_int min2_int max_two min_two max_three min_three max_four min_four
set_option linter.unusedVariables false
set_option linter.unusedSimpArgs false

/-! ### laws_heldSpanS: function 31 -/
def laws_heldSpanS.l0 : Nat → List (S59) → Int → Int → Option (Int)
  | 0, _, _, _ => none
  | k + 1, x0, x1, x5 => if x5 < (x0.length : Int) then (if 0 ≤ x5 then (if ((rd_T59 x0 x5).f0) = x1 then (if ((rd_T59 x0 x5).f1) = (wrap64 (x1 + 1)) then (laws_heldSpanS.l0 k x0 (wrap64 ((wrap64 (x1 + 1)) + 1)) (wrap64 (x5 + 1))) else (some (-1))) else (some (-1))) else (none)) else (some x1)
def laws_heldSpanS.f (k : Nat) (l0 : List (S59)) (a1 : Int) : Option (Int) := laws_heldSpanS.l0 k l0 a1 0
theorem laws_heldSpanS.mono_l : ∀ k, (∀ y0 y1 y2, LeO (laws_heldSpanS.l0 k y0 y1 y2) (laws_heldSpanS.l0 (k + 1) y0 y1 y2))
  | 0 => fun _ _ _ r h => by simp [laws_heldSpanS.l0] at h
  | k + 1 => by
    have ih0 := laws_heldSpanS.mono_l k
    · intro y0 y1 y2
      unfold laws_heldSpanS.l0
      repeat' first
      | (with_reducible exact ih0 _ _ _)
      | (with_reducible exact LeO.refl _)
      | (with_reducible exact LeO.none _)
      | (with_reducible refine LeO.ite ?_ ?_)
      | (with_reducible refine LeO.bind ?_ (fun _ => ?_))
      | exact ih0 _ _ _
      | exact LeO.none _
      | refine LeO.ite ?_ ?_
      | refine LeO.bind ?_ (fun _ => ?_)
theorem laws_heldSpanS.mono : ∀ a0 a1 k, LeO (laws_heldSpanS.f k a0 a1) (laws_heldSpanS.f (k + 1) a0 a1) := by
  intro a0 a1 k
  have ih0 := laws_heldSpanS.mono_l k
  unfold laws_heldSpanS.f
  repeat' first
      | (with_reducible exact ih0 _ _ _)
      | (with_reducible exact LeO.refl _)
      | (with_reducible exact LeO.none _)
      | (with_reducible refine LeO.ite ?_ ?_)
      | (with_reducible refine LeO.bind ?_ (fun _ => ?_))
      | exact ih0 _ _ _
      | exact LeO.none _
      | refine LeO.ite ?_ ?_
      | refine LeO.bind ?_ (fun _ => ?_)
set_option maxHeartbeats 8000000 in
set_option maxRecDepth 100000 in
theorem laws_heldSpanS.calls (k : Nat) (A0 : Option Addr) (c0 : Nat) (l0 : List (S59)) (a1 : Int) (r : Int) (w : World) (hr0 : Kd.C k59 w A0 l0.length l0) (hc0 : l0.length ≤ c0) (h : laws_heldSpanS.f k l0 a1 = some r) :
    Calls Try.prog 31 #[.slice A0 l0.length c0, .int .i64 a1] w fun e w' => e = .returned (.int .i64 r) ∧ Drawn0 w w' := by
  have HR0 := Aside0.mk hr0
  have HC0 := Aside0.mk hc0
  clear hr0 hc0
  have H : (laws_heldSpanS.l0 k l0 a1 0) = some r := h
  clear h
  have H' := Aside0.mk H
  clear H
  go_enter Try.func31, Try.ntmps31
  go_wp2
  go_loopg [1, 5] k (fun kq v1 v5 w' => ∃ (x1_1 : Int) (x5_1 : Int), v1 = .int .i64 x1_1 ∧ v5 = .int .i64 x5_1 ∧ Aside0 (laws_heldSpanS.l0 kq l0 x1_1 x5_1 = some r) ∧ Aside0 (kq ≤ k) ∧ Drawn0 w w')
  case atStart => exact ⟨(a1), (0), (by first | rfl | (simp; done) | (simp [*]; done)), (by first | rfl | (simp; done) | (simp [*]; done)), H', ⟨Nat.le_refl _⟩, by repeat (first | exact Drawn0.refl _ | apply Drawn0.step)⟩
  case round =>
    clear H'
    try clear p2
    obtain ⟨x1_1, x5_1, rfl, rfl, HA, HK1, ⟨m1, rfl⟩⟩ := hrel
    cases gk with
    | zero => exact absurd HA.out (by simp [laws_heldSpanS.l0])
    | succ k1 =>
      have H := HA.out
      clear HA
      simp only [laws_heldSpanS.l0] at H
      by_cases c3 : x5_1 < (l0.length : Int)
      · rw [if_pos c3] at H
        have c3b0 : decide (x5_1 < (l0.length : Int)) = true := decide_eq_true c3
        clear c3
        by_cases c4 : 0 ≤ x5_1
        · rw [if_pos c4] at H
          have c4b0 : decide (0 ≤ x5_1) = true := decide_eq_true c4
          clear c4
          by_cases c5 : ((rd_T59 l0 x5_1).f0) = x1_1
          · rw [if_pos c5] at H
            have c5b0 : (((rd_T59 l0 x5_1).f0) == x1_1) = true := beq_iff_eq.mpr c5
            have c5b1 : (((rd_T59 l0 x5_1).f0) != x1_1) = false := bne_eq_false_iff_eq.mpr c5
            clear c5
            by_cases c6 : ((rd_T59 l0 x5_1).f1) = (wrap64 (x1_1 + 1))
            · rw [if_pos c6] at H
              have c6b0 : (((rd_T59 l0 x5_1).f1) == (wrap64 (x1_1 + 1))) = true := beq_iff_eq.mpr c6
              have c6b1 : (((rd_T59 l0 x5_1).f1) != (wrap64 (x1_1 + 1))) = false := bne_eq_false_iff_eq.mpr c6
              clear c6
              have H' := Aside0.mk H
              clear H
              have p101 : 0 ≤ (x5_1 : Int) := of_decide_eq_true (by first | (with_reducible assumption) | assumption)
              have q101 : x5_1 < (l0.length : Int) := of_decide_eq_true (by first | (with_reducible assumption) | assumption)
              obtain ⟨ad101, e101, hx101_0, hx101_1⟩ := at_T59 HR0.out x5_1 p101 q101
              cases e101
              replace p101 := eq_true p101
              replace q101 := eq_true q101
              have p102 : 0 ≤ (x5_1 : Int) := of_decide_eq_true (by first | (with_reducible assumption) | assumption)
              have q102 : x5_1 < (l0.length : Int) := of_decide_eq_true (by first | (with_reducible assumption) | assumption)
              obtain ⟨ad102, e102, hx102_0, hx102_1⟩ := at_T59 HR0.out x5_1 p102 q102
              obtain rfl : ad101 = ad102 := (by injection e102)
              replace p102 := eq_true p102
              replace q102 := eq_true q102
              go_wp2
              go_roundg k1
              case measure => have := HK1.out; omega
              case rel => exact ⟨(wrap64 ((wrap64 (x1_1 + 1)) + 1)), (wrap64 (x5_1 + 1)), (by first | rfl | (simp; done) | (simp [*]; done)), (by first | rfl | (simp; done) | (simp [*]; done)), H', ⟨by have := HK1.out; omega⟩, by repeat (first | exact Drawn0.refl _ | apply Drawn0.step)⟩
            · rw [if_neg c6] at H
              have c6b0 : (((rd_T59 l0 x5_1).f1) == (wrap64 (x1_1 + 1))) = false := beq_eq_false_iff_ne.mpr c6
              have c6b1 : (((rd_T59 l0 x5_1).f1) != (wrap64 (x1_1 + 1))) = true := bne_iff_ne.mpr c6
              obtain rfl := Option.some.inj H
              have p101 : 0 ≤ (x5_1 : Int) := of_decide_eq_true (by first | (with_reducible assumption) | assumption)
              have q101 : x5_1 < (l0.length : Int) := of_decide_eq_true (by first | (with_reducible assumption) | assumption)
              obtain ⟨ad101, e101, hx101_0, hx101_1⟩ := at_T59 HR0.out x5_1 p101 q101
              cases e101
              replace p101 := eq_true p101
              replace q101 := eq_true q101
              have p102 : 0 ≤ (x5_1 : Int) := of_decide_eq_true (by first | (with_reducible assumption) | assumption)
              have q102 : x5_1 < (l0.length : Int) := of_decide_eq_true (by first | (with_reducible assumption) | assumption)
              obtain ⟨ad102, e102, hx102_0, hx102_1⟩ := at_T59 HR0.out x5_1 p102 q102
              obtain rfl : ad101 = ad102 := (by injection e102)
              replace p102 := eq_true p102
              replace q102 := eq_true q102
              go_wp2
              go_ret
              exact ⟨by first | rfl | (simp; done) | (simp [*]; done), by repeat (first | exact Drawn0.refl _ | apply Drawn0.step)⟩
          · rw [if_neg c5] at H
            have c5b0 : (((rd_T59 l0 x5_1).f0) == x1_1) = false := beq_eq_false_iff_ne.mpr c5
            have c5b1 : (((rd_T59 l0 x5_1).f0) != x1_1) = true := bne_iff_ne.mpr c5
            obtain rfl := Option.some.inj H
            have p101 : 0 ≤ (x5_1 : Int) := of_decide_eq_true (by first | (with_reducible assumption) | assumption)
            have q101 : x5_1 < (l0.length : Int) := of_decide_eq_true (by first | (with_reducible assumption) | assumption)
            obtain ⟨ad101, e101, hx101_0, hx101_1⟩ := at_T59 HR0.out x5_1 p101 q101
            cases e101
            replace p101 := eq_true p101
            replace q101 := eq_true q101
            go_wp2
            go_ret
            exact ⟨by first | rfl | (simp; done) | (simp [*]; done), by repeat (first | exact Drawn0.refl _ | apply Drawn0.step)⟩
        · rw [if_neg c4] at H
          exact absurd H (by simp)
      · rw [if_neg c3] at H
        have c3b0 : decide (x5_1 < (l0.length : Int)) = false := decide_eq_false c3
        clear c3
        obtain rfl := Option.some.inj H
        go_wp2
        go_ret
        exact ⟨by first | rfl | (simp; done) | (simp [*]; done), by repeat (first | exact Drawn0.refl _ | apply Drawn0.step)⟩

end Go.Proofs.Ytligcknlmbgbiaa.P

namespace Go.Proofs.Ytligcknlmbgbiaa.Pure
open Go.RowKit Go.Proofs.Ytligcknlmbgbiaa.P Go.Proofs.YtligcknlmbgbiaaW.PrintWords Go.Proofs.YtligcknlmbgbiaaW.PrintLast Go.Proofs.Ytligcknlmbgbiaa.Opn
set_option linter.unusedVariables false
set_option linter.unusedSimpArgs false

def mkSpan (a : Int) (n : Nat) : List S59 := (List.range n).map fun i : Nat => ⟨a + 2 * (i : Int), a + 2 * (i : Int) + 1⟩
theorem mkSpan_length (a : Int) (n : Nat) : (mkSpan a n).length = n := by simp [mkSpan]
theorem mkSpan_snoc (a : Int) (n : Nat) : mkSpan a (n + 1) = mkSpan a n ++ [(fun i : Nat => (⟨a + 2 * (i : Int), a + 2 * (i : Int) + 1⟩ : S59)) n] := by
  unfold mkSpan
  rw [List.range_succ, List.map_append]
  rfl
theorem mkSpan_rd (a : Int) (n i : Nat) (h : i < n) : rd_T59 (mkSpan a n) (i : Int) = (fun i : Nat => (⟨a + 2 * (i : Int), a + 2 * (i : Int) + 1⟩ : S59)) i := by
  rw [rdSpan _ _ (by rw [mkSpan_length]; exact h)]
  simp [mkSpan]
theorem rd_setSpan (l : List S59) (i : Nat) (v : S59) (h : i < l.length) : rd_T59 (l.set i v) (i : Int) = v := by
  rw [rdSpan _ _ (by simpa using h)]
  simp
theorem markSpanS_l0 (n : Nat) (a : Int) (ha : 0 ≤ a) (hb : a + 2 * n ≤ 1000000000) : ∀ (d k i : Nat) (y : List S59), i + d = n → d < k → y.length = n → y.take i = mkSpan a i → laws_markSpanS.l0 k y (a + 2 * i) (i : Int) = some (a + 2 * n, mkSpan a n) := by
  intro d
  induction d with
  | zero =>
    intro k i y hi hk hy ht
    obtain ⟨k, rfl⟩ := round hk
    simp only [laws_markSpanS.l0]
    rw [if_neg (by omega)]
    have : i = n := by omega
    subst this
    rw [List.take_of_length_le (by omega)] at ht
    rw [ht]
  | succ d ih =>
    intro k i y hi hk hy ht
    obtain ⟨k, rfl⟩ := round hk
    simp only [laws_markSpanS.l0, Option.bind_some, Int.toNat_natCast, rd_setSpan _ _ _ (show i < y.length by omega), List.set_set, wrap_id (x := a + 2 * (i : Int) + 1) (by omega) (by omega), wrap_id (x := a + 2 * (i : Int) + 1 + 1) (by omega) (by omega)]
    rw [if_pos (by omega), if_pos (by omega), wrap_id (x := (i : Int) + 1) (by omega) (by omega)]
    have := ih k (i + 1) (y.set i ((fun i : Nat => (⟨a + 2 * (i : Int), a + 2 * (i : Int) + 1⟩ : S59)) i)) (by omega) (by omega) (by simpa using hy) (by rw [take_set_succ _ _ (by omega), ht, mkSpan_snoc])
    rw [show a + 2 * (i : Int) + 1 + 1 = a + 2 * ((i + 1 : Nat) : Int) by push_cast; omega]
    simpa using this
theorem markSpanS (y : List S59) (a : Int) (ha : 0 ≤ a) (hb : a + 2 * y.length ≤ 1000000000) (k : Nat) (hk : y.length < k) : laws_markSpanS.f k y a = some (a + 2 * y.length, mkSpan a y.length) := by
  unfold laws_markSpanS.f
  have := markSpanS_l0 y.length a ha hb y.length k 0 y (by omega) hk rfl (by simp [mkSpan])
  simpa using this
theorem heldSpanS_l0 (n : Nat) (a : Int) (ha : 0 ≤ a) (hb : a + 2 * n ≤ 1000000000) : ∀ (d k i : Nat), i + d = n → d < k → laws_heldSpanS.l0 k (mkSpan a n) (a + 2 * i) (i : Int) = some (a + 2 * n) := by
  intro d
  induction d with
  | zero =>
    intro k i hi hk
    obtain ⟨k, rfl⟩ := round hk
    simp only [laws_heldSpanS.l0]
    rw [if_neg (by rw [mkSpan_length]; omega)]
    have : i = n := by omega
    subst this
    rfl
  | succ d ih =>
    intro k i hi hk
    obtain ⟨k, rfl⟩ := round hk
    simp only [laws_heldSpanS.l0, mkSpan_rd a n i (by omega), wrap_id (x := a + 2 * (i : Int) + 1) (by omega) (by omega), wrap_id (x := a + 2 * (i : Int) + 1 + 1) (by omega) (by omega)]
    rw [if_pos (by rw [mkSpan_length]; omega), if_pos (by omega)]
    have := ih k (i + 1) (by omega) (by omega)
    rw [wrap_id (x := (i : Int) + 1) (by omega) (by omega), show a + 2 * (i : Int) + 1 + 1 = a + 2 * ((i + 1 : Nat) : Int) by push_cast; omega]
    simpa using this
theorem heldSpanS (n : Nat) (a : Int) (ha : 0 ≤ a) (hb : a + 2 * n ≤ 1000000000) (k : Nat) (hk : n < k) : laws_heldSpanS.f k (mkSpan a n) a = some (a + 2 * n) := by
  unfold laws_heldSpanS.f
  have := heldSpanS_l0 n a ha hb n k 0 (by omega) hk
  simpa using this

end Go.Proofs.Ytligcknlmbgbiaa.Pure

namespace Go.Proofs.Ytligcknlmbgbiaa.Pure
open Go.RowKit Go.Proofs.Ytligcknlmbgbiaa.P Go.Proofs.YtligcknlmbgbiaaW.PrintWords Go.Proofs.YtligcknlmbgbiaaW.PrintLast Go.Proofs.Ytligcknlmbgbiaa.Opn
set_option linter.unusedVariables false
set_option linter.unusedSimpArgs false

theorem markSender (a : Int) (l1 : List Sp) (l2 : List Int) (h1 : l1.length ≤ 1048576) (h2 : l2.length ≤ 1048576) (k : Nat) (hk1 : l1.length < k) (hk2 : l2.length < k) : laws_markSender.f k a l1 l2 1 = some (1 + 2 * (l1.length : Int) + (l2.length : Int), mkSpan 1 l1.length, marks (1 + 2 * (l1.length : Int)) l2.length) := by
  unfold laws_markSender.f
  rw [markSpanS l1 1 (by omega) (by omega) k hk1, Option.bind_some]
  dsimp only
  rw [markIntS l2 _ (by omega) (by omega) k hk2, Option.bind_some]
def opn (l1 : List Sp) (l2 : List Int) : Nat → Int → List Int
  | 0, _ => []
  | d + 1, i => if l1.any (inSpan i) || decide (i ∈ l2) then opn l1 l2 d (i + 1) else i :: opn l1 l2 d (i + 1)
theorem opn_len (l1 : List Sp) (l2 : List Int) : ∀ (d : Nat) (i : Int), (opn l1 l2 d i).length ≤ d := by
  intro d
  induction d with
  | zero => intro i; simp [opn]
  | succ d ih =>
    intro i
    have := ih (i + 1)
    rw [opn]
    split
    · omega
    · simp only [List.length_cons]
      omega
theorem spec_open_l0 (a : Int) (l1 : List Sp) (l2 : List Int) (h1 : l1.length ≤ 1048576) (h2 : l2.length ≤ 1048576) (ha : a ≤ 60) : ∀ (d k : Nat) (i : Int) (x : List Int), i + d = a → 0 ≤ i → d + l1.length + l2.length + 1 < k → x.length ≤ 100 + i.toNat → spec_l11Open.l0 k x i a l1 l2 = some (x ++ opn l1 l2 d i) := by
  intro d
  induction d with
  | zero =>
    intro k i x hi h0 hk hx
    obtain ⟨k, rfl⟩ := round (d := 0) (k := k) (by omega)
    rw [spec_l11Open.l0, if_neg (by omega), opn, List.append_nil]
  | succ d ih =>
    intro k i x hi h0 hk hx
    obtain ⟨k, rfl⟩ := round (d := 0) (k := k) (by omega)
    rw [spec_l11Open.l0, if_pos (by omega), l2Has l1 i h1 k (by omega), Option.bind_some, wrap_id (x := i + 1) (by omega) (by omega), opn]
    cases hb : l1.any (inSpan i) with
    | true =>
      rw [if_pos rfl, Bool.true_or, if_pos rfl]
      exact ih k (i + 1) x (by omega) (by omega) (by omega) (by omega)
    | false =>
      rw [if_neg (show ¬ (false = true) by decide), l1Has l2 i h2 k (by omega), Option.bind_some, Bool.false_or]
      cases hc : decide (i ∈ l2) with
      | true =>
        rw [if_pos rfl, if_pos rfl]
        exact ih k (i + 1) x (by omega) (by omega) (by omega) (by omega)
      | false =>
        rw [if_neg (show ¬ (false = true) by decide), if_neg (show ¬ (false = true) by decide), if_pos (by omega), ih k (i + 1) (x ++ [i]) (by omega) (by omega) (by omega) (by simp only [List.length_append, List.length_cons, List.length_nil]; omega), List.append_assoc]
        rfl
theorem impl_open_l0 (a : Int) (l1 : List Sp) (l2 : List Int) (h1 : l1.length ≤ 1048576) (h2 : l2.length ≤ 1048576) (ha : a ≤ 60) : ∀ (d k : Nat) (i : Int) (x : List Int), i + d = a → 0 ≤ i → d + l1.length + l2.length + 1 < k → x.length ≤ 100 + i.toNat → impl_Sender_open.l0 k x a i a l1 l2 = some (x ++ opn l1 l2 d i, a) := by
  intro d
  induction d with
  | zero =>
    intro k i x hi h0 hk hx
    obtain ⟨k, rfl⟩ := round (d := 0) (k := k) (by omega)
    rw [impl_Sender_open.l0, if_neg (by omega), opn, List.append_nil]
  | succ d ih =>
    intro k i x hi h0 hk hx
    obtain ⟨k, rfl⟩ := round (d := 0) (k := k) (by omega)
    rw [impl_Sender_open.l0, if_pos (by omega)]
    unfold impl_has.f
    rw [Option.bind_some, wrap_id (x := i + 1) (by omega) (by omega), opn]
    cases hb : l1.any (inSpan i) with
    | true =>
      rw [if_pos rfl, Bool.true_or, if_pos rfl]
      exact ih k (i + 1) x (by omega) (by omega) (by omega) (by omega)
    | false =>
      rw [if_neg (show ¬ (false = true) by decide), containsI l2 i h2 k (by omega), Option.bind_some, Bool.false_or]
      cases hc : decide (i ∈ l2) with
      | true =>
        rw [if_pos rfl, if_pos rfl]
        exact ih k (i + 1) x (by omega) (by omega) (by omega) (by omega)
      | false =>
        rw [if_neg (show ¬ (false = true) by decide), if_neg (show ¬ (false = true) by decide), if_pos (by omega), ih k (i + 1) (x ++ [i]) (by omega) (by omega) (by omega) (by simp only [List.length_append, List.length_cons, List.length_nil]; omega), List.append_assoc]
        rfl
theorem open_both (a : Int) (l1 : List Sp) (l2 : List Int) (h1 : l1.length ≤ 1048576) (h2 : l2.length ≤ 1048576) : ∃ q : List Int × Bool, q.1.length ≤ 60 ∧ ∀ k, l1.length + l2.length + 200 < k → spec_OpenIn.f k a l1 l2 = some q ∧ impl_OpenIn.f k a l1 l2 = some q := by
  by_cases hg : goodSe a l1 l2 = true
  · have ha : 0 ≤ a ∧ a ≤ 60 := by
      unfold goodSe at hg
      simp only [Bool.and_eq_true, decide_eq_true_eq] at hg
      exact hg.1
    obtain ⟨n, rfl⟩ := Int.eq_ofNat_of_zero_le ha.1
    refine ⟨(opn l1 l2 n 0, true), ?_, fun k hk => ?_⟩
    · have := opn_len l1 l2 n 0
      dsimp only
      omega
    · unfold spec_OpenIn.f impl_OpenIn.f
      rw [spec_goodSe n l1 l2 h1 h2 k (by omega), impl_goodSe n l1 l2 h1 h2 k (by omega)]
      simp only [Option.bind_some, hg, if_true]
      unfold spec_l11Open.f impl_Span_82.f impl_Sender_open.f
      rw [spec_open_l0 n l1 l2 h1 h2 (by omega) n k 0 [] (by omega) (by omega) (by omega) (by simp), impl_open_l0 n l1 l2 h1 h2 (by omega) n k 0 [] (by omega) (by omega) (by omega) (by simp)]
      exact ⟨rfl, rfl⟩
  · refine ⟨([], false), by simp, fun k hk => ?_⟩
    unfold spec_OpenIn.f impl_OpenIn.f
    rw [spec_goodSe a l1 l2 h1 h2 k (by omega), impl_goodSe a l1 l2 h1 h2 k (by omega)]
    simp only [Option.bind_some, hg, Bool.false_eq_true, if_false]
    first | exact ⟨rfl, rfl⟩ | exact ⟨trivial, trivial⟩ | simp
theorem FnExactOpenIn : laws_FnExactOpenIn.Pure := by
  intro a l1 l2 _ h1 h2
  by_cases hs : (l1.length : Int) + l2.length ≤ 1048576
  · obtain ⟨k, hk⟩ : ∃ k : Nat, 2500000 < k := ⟨2500001, by omega⟩
    refine ⟨k + 1 + 1 + 1, ?_⟩
    have g1 : (l1.map cvSpan).length ≤ 1048576 := by simp only [List.length_map]; omega
    have g2 : l2.length ≤ 1048576 := by omega
    have g0 : l1.length ≤ 1048576 := by omega
    obtain ⟨⟨q1, q2⟩, hq, hb⟩ := open_both a (l1.map cvSpan) l2 g1 g2
    dsimp only at hq
    have d1 : q1.length ≤ 1048576 := by omega
    unfold laws_FnExactOpenIn.f
    rw [szSender_ok a l1 l2 hs, Option.bind_some, if_neg (by omega)]
    simp only [toSender a l1 l2 g0 g2 (k + 1 + 1 + 1) (by omega) (by omega), Option.bind_some, (hb (k + 1 + 1 + 1) (by omega)).1, (hb (k + 1 + 1 + 1) (by omega)).2, eqIntS q1 q1 d1 (k + 1 + 1 + 1) (by omega), if_true, bne_self_eq_false, decide_true]
    rw [laws_FnExactOpenIn.j0]
    simp only [Bool.false_eq_true, if_false, toSender a l1 l2 g0 g2 (k + 1 + 1) (by omega) (by omega), Option.bind_some, eqSender a (l1.map cvSpan) l2 g1 g2 (k + 1 + 1) (by omega) (by omega), if_true, markSender a (l1.map cvSpan) l2 g1 g2 (k + 1 + 1) (by omega) (by omega), eqIntS q1 q1 d1 (k + 1 + 1) (by omega), bne_self_eq_false, decide_true]
    rw [if_neg (by omega), laws_FnExactOpenIn.j1]
    simp only [Bool.false_eq_true, if_false, toSender a l1 l2 g0 g2 (k + 1) (by omega) (by omega), Option.bind_some, markIntS q1 1 (by omega) (by omega) (k + 1) (by omega), heldIntS q1.length 1 (by omega) (by omega) (k + 1) (by omega), if_true, (hb (k + 1) (by omega)).2, eqIntS q1 q1 d1 (k + 1) (by omega), bne_self_eq_false, decide_true]
    rw [if_neg (by omega), laws_FnExactOpenIn.j2]
    simp only [Bool.false_eq_true, if_false, heldIntS q1.length 1 (by omega) (by omega) k (by omega), Option.bind_some, if_true]
    rw [if_neg (by omega)]
  · refine ⟨0, ?_⟩
    unfold laws_FnExactOpenIn.f
    rw [szSender_big a l1 l2 h1.1 h2.1 hs, Option.bind_some, if_pos (by omega)]

end Go.Proofs.Ytligcknlmbgbiaa.Pure

namespace Go.Proofs.Ytligcknlmbgbiaa.fnExactOpenIn
open Go.ChangeShapes Go.WideShapes Go.ChangeAt Go.RowKit Go.Proofs.Ytligcknlmbgbiaa.P Go.Proofs.Ytligcknlmbgbiaa.Opn Go.Proofs.YtligcknlmbgbiaaW.PrintWords
open Go.ChangeMaps (open_string shut_string)
set_option linter.unusedVariables false
theorem own : ownKnob Try.prog.godebug = none := by kernel_rfl
theorem laidOut : laidOutB Try.prog = true := by kernel_rfl
set_option maxRecDepth 100000 in
theorem lifted (os : Os) (started : os.Started) (H : Type) (enc : TypeId × Value → H) :
    ReturnsInHanded {} Try.checked os 3 .any (Rows.fnExactOpenInSpec.pre6 enc Try.prog Try.f3 Rows.fnExactOpenInRow.domain false) (Rows.fnExactOpenInSpec.post enc Try.prog Try.f3 false true false false) := by
  refine returnsInHanded_of_change_sized (C := Try.checked) own started (by kernel_rfl) Try.func3
    (ChangeSpec.witness6 (enc := enc) (C := Try.checked) false ⟨#[], #[.agg #[.int .i64 0, .slice none 0 0, .slice none 0 0]], []⟩ 8 (by kernel_rfl) (by kernel_rfl) (by kernel_rfl) (by kernel_rfl)) ?_
  intro W base args ds gs before hval0 hW hcnd hsz0 _
  have hval : ∀ (j : Nat) t v, Try.f3.params[j]? = some t → args[j]? = some v → Value.okWide Try.prog W .any base t v := hval0
  have hW' := hW
  obtain ⟨p, q, hA0, hV, rfl, hfz, hnd⟩ := hW
  have hA : DataW.TrodAll enc Try.prog W 0 (fun _ => true) true Try.f3.params.toList args.toList ds p := hA0
  rw [Try.params3] at hA hval
  obtain ⟨v0, vs0, d0, ds0, p0, q0, hargs, rfl, rfl, h0, r0⟩ := trodAll_cons hA
  obtain ⟨rfl, rfl, rfl⟩ := trodAll_nil r0
  obtain rfl : args = #[v0] := by cases args; simp_all
  obtain ⟨rfl, rfl⟩ := trodVars_none hV
  have k0 := h0
  have lt0 : ∀ x ∈ p0, x.block < W.heap.size := by obtain ⟨m, hm⟩ := k0; exact DataW.trod_lt m _ _ _ hm
  obtain ⟨fuel0, hf0⟩ := h0
  obtain ⟨y0, hK0, hw0⟩ := opens25.out enc W fuel0 _ _ hf0
  obtain ⟨cs0, rfl, _⟩ := okWide_struct Try.underlying25 (hval 0 25 v0 rfl rfl)
  obtain ⟨A0_1, c0_1, A0_2, c0_2, hcs0, hc0_1, hr0_1, hc0_2, hr0_2⟩ := k25_open hK0
  obtain rfl : cs0 = #[.int .i64 y0.f0, .slice A0_1 y0.f1.length c0_1, .slice A0_2 y0.f2.length c0_2] := by simpa [Value.cells, ← Array.toList_inj] using hcs0
  obtain ⟨k_, hP⟩ := Pure.FnExactOpenIn y0.f0 y0.f1 y0.f2 hw0.1 hw0.2.1 hw0.2.2
  refine (laws_FnExactOpenIn.calls k_ y0.f0 _ _ y0.f1 _ _ y0.f2 true W hr0_1 hc0_1 hr0_2 hc0_2 hP).mono fun e W' he => ?_
  obtain ⟨rfl, hd⟩ := he
  have bel : Below W.heap.size W W' := hd
  exact ⟨_, rfl, _, _, _, [], _, [], hW', trodAll_mk1 (shut_bool Try.underlying4 _), (trodAll_cons_mk (Below.trod laidOut (by kernel_rfl) (of_decide_eq_true (by kernel_rfl)) k0 bel lt0) trodAll_mk0), rfl, bel.frame _, fun h => by cases h⟩
theorem over : Rows.fnExactOpenInRow.holds Try.pinned (OpenSpec.ofChange Rows.fnExactOpenInSpec) :=
  OpenClaim.holds_of_wide 3 Try.f3 rfl rfl rfl rfl rfl rfl rfl ⟨rfl, rfl, rfl, rfl, rfl⟩ rfl rfl rfl rfl rfl (by kernel_rfl) Try.func3 (by kernel_rfl)
    (of_decide_eq_true (by kernel_rfl)) (by unfold Func.isWrapper; first | (rw [if_pos (by decide +kernel)]; kernel_rfl) | (rw [if_neg (by decide +kernel)]; exact ⟨rfl, rfl⟩))
    (fun os started H enc _ => lifted os started H enc)
end Go.Proofs.Ytligcknlmbgbiaa.fnExactOpenIn
namespace Go.Proofs.Ytligcknlmbgbiaa
/-- The row. -/
theorem fnExactOpenIn_holds : Rows.FnExactOpenInSaid := fnExactOpenIn.over
#print axioms fnExactOpenIn_holds
end Go.Proofs.Ytligcknlmbgbiaa
