import Derived.Test.YtfbiekobmgclhaaBInt
import Derived.Test.YtfbiekobmgclhaaBSzI
import Derived.Test.YtfbiekobmgclhaaBAll
import Derived.Test.YtfbiekobmgclhaaBIn
import Derived.Test.YtfbiekobmgclhaaPf15
import Derived.Test.YtfbiekobmgclhaaPf17
import Derived.Test.YtfbiekobmgclhaaPf10
import Derived.Test.YtfbiekobmgclhaaPf16
import Derived.Test.YtfbiekobmgclhaaPf18
namespace Go.Proofs.Ytfbiekobmgclhaa.Pure
open Go.RowKit Go.Proofs.Ytfbiekobmgclhaa.P Go.Proofs.YtfbiekobmgclhaaW.PrintWords Go.Proofs.YtfbiekobmgclhaaW.PrintLast Go.Proofs.Ytfbiekobmgclhaa.Opn
set_option linter.unusedVariables false
set_option linter.unusedSimpArgs false

theorem rdL (l : List (List Int)) (i : Nat) (h : i < l.length) : rd_L1 l (i : Int) = l[i] := by
  simp [rd_L1, List.getD_eq_getElem?_getD, List.getElem?_eq_getElem h]
theorem drop_rdL (l : List (List Int)) (i : Nat) (h : i < l.length) : l.drop i = rd_L1 l (i : Int) :: l.drop (i + 1) := by
  rw [List.drop_eq_getElem_cons h, rdL l i h]
theorem rdL_mem (l : List (List Int)) (i : Nat) (h : i < l.length) : rd_L1 l (i : Int) ∈ l := by
  rw [rdL l i h]
  exact List.getElem_mem h
/-- What the sum of sizes tells: a number below 0, or all sizes are small. -/
theorem szSS_l0 (l : List (List Int)) (hn : l.length ≤ 1048576) (hw : ∀ q ∈ l, q.length ≤ 9223372036854775807) : ∀ (d k i : Nat) (a : Int), i + d = l.length → d < k → 0 ≤ a → a ≤ 1048576 → ∃ v, laws_szIntSS.l0 k l a (i : Int) = some v ∧ (0 ≤ v → v ≤ a ∧ ∀ q ∈ l.drop i, (q.length : Int) ≤ a) := by
  intro d
  induction d with
  | zero =>
    intro k i a h hk h0 h1
    obtain ⟨k, rfl⟩ := round hk
    refine ⟨a, ?_, fun _ => ⟨Int.le_refl a, ?_⟩⟩
    · rw [laws_szIntSS.l0, if_neg (by omega)]
    · rw [List.drop_of_length_le (by omega)]
      intro q hq
      cases hq
  | succ d ih =>
    intro k i a h hk h0 h1
    obtain ⟨k, rfl⟩ := round hk
    have hm := hw _ (rdL_mem l i (by omega))
    rw [laws_szIntSS.l0, if_pos (by omega), if_pos (by omega), szIntS _ a h0 h1 hm, Option.bind_some, wrap_id (x := (i : Int) + 1) (by omega) (by omega)]
    by_cases hc : ((rd_L1 l (i : Int)).length : Int) ≤ a
    · rw [if_pos hc, if_neg (by omega)]
      obtain ⟨v, e, hv⟩ := ih k (i + 1) (a - ((rd_L1 l (i : Int)).length : Int)) (by omega) (by omega) (by omega) (by omega)
      refine ⟨v, e, fun h2 => ?_⟩
      have := hv h2
      refine ⟨by omega, ?_⟩
      rw [drop_rdL l i (by omega)]
      intro q hq
      rcases List.mem_cons.1 hq with rfl | hq
      · exact hc
      · have := this.2 q hq
        omega
    · rw [if_neg hc, if_pos (by omega)]
      exact ⟨-1, rfl, fun h2 => by omega⟩
theorem szSS (l : List (List Int)) (a : Int) (ha : 0 ≤ a) (ha2 : a ≤ 1048576) (hl : l.length ≤ 9223372036854775807) (hw : ∀ q ∈ l, q.length ≤ 9223372036854775807) (k : Nat) (hk : 1048576 < k) : ∃ v, laws_szIntSS.f k l a = some v ∧ (0 ≤ v → v ≤ a ∧ (l.length : Int) ≤ a ∧ ∀ q ∈ l, (q.length : Int) ≤ a) := by
  unfold laws_szIntSS.f
  rw [wrap_id (by omega) (by omega)]
  by_cases hc : (l.length : Int) ≤ a
  · rw [if_neg (by omega)]
    obtain ⟨v, e, hv⟩ := szSS_l0 l (by omega) hw l.length k 0 (a - l.length) (by omega) (by omega) (by omega) (by omega)
    refine ⟨v, e, fun h2 => ?_⟩
    have := hv h2
    refine ⟨by omega, hc, fun q hq => ?_⟩
    have := this.2 q (by simpa using hq)
    omega
  · rw [if_pos (by omega)]
    exact ⟨-1, rfl, fun h2 => by omega⟩
theorem szTurns (l0 : List Int) (l1 : List (List Int)) (l2 l3 : List Int) (a : Int) (h0 : l0.length ≤ 9223372036854775807) (h1 : l1.length ≤ 9223372036854775807) (hw : ∀ q ∈ l1, q.length ≤ 9223372036854775807) (h2 : l2.length ≤ 9223372036854775807) (h3 : l3.length ≤ 9223372036854775807) (k : Nat) (hk : 1048576 < k) :
    ∃ v, laws_szTurns.f k l0 l1 l2 l3 a 1048576 = some v ∧ (0 ≤ v → l0.length ≤ 1048576 ∧ l1.length ≤ 1048576 ∧ (∀ q ∈ l1, q.length ≤ 1048576) ∧ l2.length ≤ 1048576 ∧ l3.length ≤ 1048576) := by
  unfold laws_szTurns.f
  rw [szIntS l0 _ (by omega) (by omega) h0, Option.bind_some]
  by_cases c0 : (l0.length : Int) ≤ 1048576
  · rw [if_pos c0, if_neg (by omega)]
    obtain ⟨v1, e1, f1⟩ := szSS l1 (1048576 - l0.length) (by omega) (by omega) h1 hw k hk
    rw [e1, Option.bind_some]
    by_cases c1 : v1 < 0
    · rw [if_pos c1]
      exact ⟨-1, rfl, fun h => by omega⟩
    · have g1 := f1 (by omega)
      rw [if_neg c1, szIntS l2 v1 (by omega) (by omega) h2, Option.bind_some]
      by_cases c2 : (l2.length : Int) ≤ v1
      · rw [if_pos c2, if_neg (by omega), szIntS l3 _ (by omega) (by omega) h3, Option.bind_some]
        by_cases c3 : (l3.length : Int) ≤ v1 - l2.length
        · rw [if_pos c3, if_neg (by omega)]
          refine ⟨_, rfl, fun _ => ⟨by omega, by omega, fun q hq => ?_, by omega, by omega⟩⟩
          have := g1.2.2 q hq
          omega
        · rw [if_neg c3, if_pos (by omega)]
          exact ⟨-1, rfl, fun h => by omega⟩
      · rw [if_neg c2, if_pos (by omega)]
        exact ⟨-1, rfl, fun h => by omega⟩
  · rw [if_neg c0, if_pos (by omega)]
    exact ⟨-1, rfl, fun h => by omega⟩
theorem toSS_l0 (x : List (List Int)) (hn : x.length ≤ 1048576) (hq : ∀ q ∈ x, q.length ≤ 1048576) : ∀ (d k i : Nat) (y : List (List Int)), i + d = x.length → d + 1048576 < k → y.length = x.length → y.take i = x.take i → laws_toIntSS.l0 k x y (i : Int) = some x := by
  intro d
  induction d with
  | zero =>
    intro k i y hi hk hy ht
    obtain ⟨k, rfl⟩ := round hk
    rw [laws_toIntSS.l0, if_neg (by omega)]
    rw [List.take_of_length_le (by omega), List.take_of_length_le (by omega)] at ht
    rw [ht]
  | succ d ih =>
    intro k i y hi hk hy ht
    obtain ⟨k, rfl⟩ := round hk
    have hm := hq _ (rdL_mem x i (by omega))
    rw [laws_toIntSS.l0, if_pos (by omega), if_pos (by omega), toIntS _ hm k (by omega), Option.bind_some, if_pos (by omega), wrap_id (by omega) (by omega), Int.toNat_natCast]
    have := ih k (i + 1) (y.set i (rd_L1 x i)) (by omega) (by omega) (by simpa using hy) (by rw [take_set_succ _ _ (by omega), ht, List.take_succ_eq_append_getElem (by omega), rdL x i (by omega)])
    simpa using this
theorem toSS (x : List (List Int)) (hn : x.length ≤ 1048576) (hq : ∀ q ∈ x, q.length ≤ 1048576) (k : Nat) (hk : 2097152 < k) : laws_toIntSS.f k x = some x := by
  unfold laws_toIntSS.f
  rw [if_pos (by omega), if_pos (by omega), Int.toNat_natCast]
  exact toSS_l0 x hn hq x.length k 0 _ (by omega) (by omega) (by simp) (by simp)
theorem eqSS_l0 (x : List (List Int)) (hn : x.length ≤ 1048576) (hq : ∀ q ∈ x, q.length ≤ 1048576) : ∀ (d k i : Nat), i + d = x.length → d + 1048576 < k → laws_eqIntSS.l0 k x x (i : Int) = some true := by
  intro d
  induction d with
  | zero =>
    intro k i hi hk
    obtain ⟨k, rfl⟩ := round hk
    rw [laws_eqIntSS.l0, if_neg (by omega)]
  | succ d ih =>
    intro k i hi hk
    obtain ⟨k, rfl⟩ := round hk
    have hm := hq _ (rdL_mem x i (by omega))
    rw [laws_eqIntSS.l0, if_pos (by omega), if_pos (by omega), if_pos (by omega), eqIntS _ _ hm k (by omega), Option.bind_some, if_pos (by simp), wrap_id (by omega) (by omega)]
    exact ih k (i + 1) (by omega) (by omega)
theorem eqSS (x : List (List Int)) (hn : x.length ≤ 1048576) (hq : ∀ q ∈ x, q.length ≤ 1048576) (k : Nat) (hk : 2097152 < k) : laws_eqIntSS.f k x x = some true := by
  unfold laws_eqIntSS.f
  rw [if_pos rfl]
  exact eqSS_l0 x hn hq x.length k 0 (by omega) (by omega)
theorem toTurns (l0 : List Int) (l1 : List (List Int)) (l2 l3 : List Int) (a : Int) (h0 : l0.length ≤ 1048576) (h1 : l1.length ≤ 1048576) (hq : ∀ q ∈ l1, q.length ≤ 1048576) (h2 : l2.length ≤ 1048576) (h3 : l3.length ≤ 1048576) (k : Nat) (hk : 2097152 < k) : laws_toTurns.f k l0 l1 l2 l3 a = some (l0, l1, l2, l3, a) := by
  unfold laws_toTurns.f
  rw [toIntS l0 h0 k (by omega), Option.bind_some, toSS l1 h1 hq k hk, Option.bind_some, toIntS l2 h2 k (by omega), Option.bind_some, toIntS l3 h3 k (by omega), Option.bind_some]
theorem eqTurns (l0 : List Int) (l1 : List (List Int)) (l2 l3 : List Int) (a : Int) (h0 : l0.length ≤ 1048576) (h1 : l1.length ≤ 1048576) (hq : ∀ q ∈ l1, q.length ≤ 1048576) (h2 : l2.length ≤ 1048576) (h3 : l3.length ≤ 1048576) (k : Nat) (hk : 2097152 < k) : laws_eqTurns.f k l0 l1 l2 l3 a l0 l1 l2 l3 a = some true := by
  unfold laws_eqTurns.f
  rw [eqIntS l0 l0 h0 k (by omega), Option.bind_some, if_pos (by simp), eqSS l1 h1 hq k hk, Option.bind_some, if_pos rfl, eqIntS l2 l2 h2 k (by omega), Option.bind_some, if_pos (by simp), eqIntS l3 l3 h3 k (by omega), Option.bind_some, if_pos (by simp), if_pos rfl]
def qOk : List (List Int) → List Int → Bool
  | [], _ => true
  | q :: ls, c => (decide ((q.length : Int) ≤ 30) && (q.all (fun x => decide (1 ≤ x ∧ x ≤ 20)) && (!decide ((q.length : Int) = 0) || decide (c.headD 0 = 0)))) && qOk ls c.tail
theorem any_inR (l : List Int) (lo hi : Int) : l.any (fun x => !inR lo hi x) = !l.all (fun x => decide (lo ≤ x ∧ x ≤ hi)) := by
  rw [List.all_eq_not_any_not, Bool.not_not]
  rfl
theorem spec_l0 (l0 : List Int) (l1 : List (List Int)) (l2 l3 : List Int) (a : Int) (h1 : l1.length ≤ 1048576) (hq : ∀ q ∈ l1, q.length ≤ 1048576) (e2 : l2.length = l1.length) : ∀ (d k i : Nat), i + d = l1.length → d + 1048576 < k → spec_GoodTurns.l0 k l1 (l1.length : Int) (i : Int) l0 l1 l2 l3 a = some (qOk (l1.drop i) (l2.drop i)) := by
  intro d
  induction d with
  | zero =>
    intro k i h hk
    obtain ⟨k, rfl⟩ := round hk
    rw [spec_GoodTurns.l0, if_neg (by omega), List.drop_of_length_le (by omega)]
    rfl
  | succ d ih =>
    intro k i h hk
    obtain ⟨k, rfl⟩ := round hk
    have hm := hq _ (rdL_mem l1 i (by omega))
    have := ih k (i + 1) (by omega) (by omega)
    have e : ((i + 1 : Nat) : Int) = (i : Int) + 1 := by omega
    rw [e] at this
    rw [spec_GoodTurns.l0, if_pos (by omega), if_pos (by omega), if_pos (by omega), l1All _ _ _ hm k (by omega), Option.bind_some, wrap_id (x := (i : Int) + 1) (by omega) (by omega), this, drop_rdL l1 i (by omega), drop_rd l2 i (by omega), qOk]
    simp only [List.headD_cons, List.tail_cons]
    generalize rd_L1 l1 (i : Int) = q
    have hi2 : (i : Int) < (l2.length : Int) := by omega
    by_cases c1 : (q.length : Int) > 30
    · have c1' : ¬ (q.length : Int) ≤ 30 := by omega
      simp [c1, c1']
    · have c1' : (q.length : Int) ≤ 30 := by omega
      rw [if_neg c1]
      cases hA : q.all (fun x => decide (1 ≤ x ∧ x ≤ 20)) with
      | false => simp
      | true =>
        rw [if_pos rfl]
        by_cases c2 : (q.length : Int) = 0
        · rw [if_pos c2, if_pos hi2]
          by_cases c3 : rd l2 (i : Int) = 0
          · rw [if_pos c3]
            simp [c2, c3]
          · rw [if_neg c3]
            simp [c2, c3]
        · rw [if_neg c2]
          simp only [c1', c2, decide_true, decide_false, Bool.true_and, Bool.not_false, Bool.true_or]
theorem impl_l0 (l0 : List Int) (l1 : List (List Int)) (l2 l3 : List Int) (a : Int) (h1 : l1.length ≤ 1048576) (e2 : l2.length = l1.length) (e3 : l3.length = l1.length) : ∀ (d k i : Nat), i + d = l1.length → 2 * d < k → impl_GoodTurns.l0 k l1 (l1.length : Int) (i : Int) l0 l1 l2 l3 a = some (qOk (l1.drop i) (l2.drop i) && ((l2.drop i).all (fun x => decide (0 ≤ x ∧ x ≤ 19)) && (l3.drop i).all (fun x => decide (0 ≤ x ∧ x ≤ 1000000)))) := by
  intro d
  induction d with
  | zero =>
    intro k i h hk
    obtain ⟨k, rfl⟩ := round hk
    rw [impl_GoodTurns.l0, if_neg (by omega), List.drop_of_length_le (by omega), List.drop_of_length_le (by omega), List.drop_of_length_le (by omega)]
    rfl
  | succ d ih =>
    intro k i h hk
    obtain ⟨k, rfl⟩ : ∃ m, k = m + 1 + 1 := ⟨k - 2, by omega⟩
    have := ih k (i + 1) (by omega) (by omega)
    have e : ((i + 1 : Nat) : Int) = (i : Int) + 1 := by omega
    rw [e] at this
    have hi2 : (i : Int) < (l2.length : Int) := by omega
    have hi3 : (i : Int) < (l3.length : Int) := by omega
    have hi0 : (0 : Int) ≤ (i : Int) := by omega
    rw [impl_GoodTurns.l0, if_pos (by omega), if_pos (by omega), if_pos (by omega)]
    unfold slices_ContainsFunc_int_int.f
    simp only [Option.bind_some, impl_GoodTurns.j2, impl_in_, wrap_id (x := (i : Int) + 1) (by omega) (by omega), this, any_inR, hi2, hi3, hi0, if_true]
    rw [drop_rdL l1 i (by omega), drop_rd l2 i (by omega), drop_rd l3 i (by omega), qOk]
    simp only [List.headD_cons, List.tail_cons, List.all_cons]
    generalize rd_L1 l1 (i : Int) = q
    generalize rd l2 (i : Int) = c
    generalize rd l3 (i : Int) = s
    generalize qOk (l1.drop (i + 1)) (l2.drop (i + 1)) = Q
    generalize (l2.drop (i + 1)).all (fun x => decide (0 ≤ x ∧ x ≤ 19)) = A2
    generalize (l3.drop (i + 1)).all (fun x => decide (0 ≤ x ∧ x ≤ 1000000)) = A3
    by_cases c1 : (q.length : Int) > 30
    · have c1' : ¬ (q.length : Int) ≤ 30 := by omega
      simp [c1, c1']
    · have c1' : (q.length : Int) ≤ 30 := by omega
      rw [if_neg c1]
      cases hA : q.all (fun x => decide (1 ≤ x ∧ x ≤ 20)) with
      | false => simp
      | true =>
        by_cases h9 : 0 ≤ c ∧ c ≤ 19
        · by_cases hs : 0 ≤ s ∧ s ≤ 1000000
          · by_cases c2 : (q.length : Int) = 0
            · by_cases c3 : c > 0
              · have c3' : ¬ c = 0 := by omega
                simp [c2, c3, c3', h9]
              · have c3' : c = 0 := by omega
                subst c3'
                simp only [c2, hs, decide_true, Bool.not_true, Bool.false_eq_true, if_false, if_true, and_self]
                cases Q <;> cases A2 <;> cases A3 <;> simp
            · simp only [c1', c2, h9, hs, decide_true, decide_false, Bool.not_true, Bool.not_false, Bool.false_eq_true, if_false, if_true, and_self, Bool.true_and, Bool.true_or]
          · by_cases c2 : (q.length : Int) = 0
            · by_cases c3 : c > 0
              · have c3' : ¬ c = 0 := by omega
                simp [c2, c3, c3', h9]
              · simp [c2, c3, h9, hs]
            · simp [c2, h9, hs]
        · simp [h9]
def goodTu (l0 : List Int) (l1 : List (List Int)) (l2 l3 : List Int) (a : Int) : Bool :=
  decide (1 ≤ (l0.length : Int) ∧ (l0.length : Int) ≤ 4) && (l0.all (fun x => decide (20 ≤ x ∧ x ≤ 100)) && (decide (l1.length = l0.length) && (decide (l2.length = l0.length) && (decide (l3.length = l0.length) && (decide (0 ≤ a ∧ a ≤ wrap64 ((l0.length : Int) - 1)) && (qOk l1 l2 && (l2.all (fun x => decide (0 ≤ x ∧ x ≤ 19)) && l3.all (fun x => decide (0 ≤ x ∧ x ≤ 1000000)))))))))
theorem spec_goodTu (l0 : List Int) (l1 : List (List Int)) (l2 l3 : List Int) (a : Int) (h0 : l0.length ≤ 1048576) (h1 : l1.length ≤ 1048576) (hq : ∀ q ∈ l1, q.length ≤ 1048576) (h2 : l2.length ≤ 1048576) (h3 : l3.length ≤ 1048576) (k : Nat) (hk : 2097153 < k) : spec_GoodTurns.f k l0 l1 l2 l3 a = some (goodTu l0 l1 l2 l3 a) := by
  obtain ⟨k, rfl⟩ := round hk
  unfold spec_GoodTurns.f goodTu
  simp only [spec_in, Option.bind_some, l1All l0 _ _ h0 (k + 1) (by omega), l1All l2 _ _ h2 (k + 1) (by omega), l1All l3 _ _ h3 (k + 1) (by omega), spec_GoodTurns.j0, if_true]
  by_cases c0 : 1 ≤ (l0.length : Int) ∧ (l0.length : Int) ≤ 4
  · rw [if_pos (by simpa using c0)]
    cases a0 : l0.all (fun x => decide (20 ≤ x ∧ x ≤ 100)) with
    | false => simp
    | true =>
      rw [if_pos rfl]
      by_cases c1 : l1.length = l0.length
      · by_cases c2 : l2.length = l0.length
        · by_cases c3 : l3.length = l0.length
          · have hL := spec_l0 l0 l1 l2 l3 a h1 hq (by omega) l1.length k 0 (by omega) (by omega)
            have hL' : spec_GoodTurns.l0 k l1 (l1.length : Int) 0 l0 l1 l2 l3 a = some (qOk l1 l2) := by simpa using hL
            have c1' : (l1.length : Int) = (l0.length : Int) := by omega
            have c2' : (l2.length : Int) = (l0.length : Int) := by omega
            have c3' : (l3.length : Int) = (l0.length : Int) := by omega
            rw [if_pos c1', if_pos c2', if_pos c3', hL']
            simp only [c0, c1, c2, c3, and_self, decide_true, Bool.true_and]
            generalize decide (0 ≤ a ∧ a ≤ wrap64 ((l0.length : Int) - 1)) = D
            generalize qOk l1 l2 = Q
            cases l2.all (fun x => decide (0 ≤ x ∧ x ≤ 19)) <;> cases l3.all (fun x => decide (0 ≤ x ∧ x ≤ 1000000)) <;> cases D <;> cases Q <;> rfl
          · have c3' : ¬ (l3.length : Int) = (l0.length : Int) := by omega
            simp [c3, c3']
        · have c2' : ¬ (l2.length : Int) = (l0.length : Int) := by omega
          simp [c2, c2']
      · have c1' : ¬ (l1.length : Int) = (l0.length : Int) := by omega
        simp [c1, c1']
  · rw [if_neg (by simpa using c0)]
    simp only [c0, decide_false, Bool.false_and]
theorem impl_goodTu (l0 : List Int) (l1 : List (List Int)) (l2 l3 : List Int) (a : Int) (h1 : l1.length ≤ 1048576) (k : Nat) (hk : 2097153 < k) : impl_GoodTurns.f k l0 l1 l2 l3 a = some (goodTu l0 l1 l2 l3 a) := by
  obtain ⟨k, rfl⟩ := round hk
  unfold impl_GoodTurns.f goodTu impl_areQuanta.f
  simp only [impl_in_, Option.bind_some, any_inR, Bool.not_not, impl_GoodTurns.j0, if_true]
  have e : inR 1 4 (l0.length : Int) = decide (1 ≤ (l0.length : Int) ∧ (l0.length : Int) ≤ 4) := rfl
  rw [e]
  by_cases c0 : 1 ≤ (l0.length : Int) ∧ (l0.length : Int) ≤ 4
  · simp only [c0, and_self, decide_true, Bool.true_and]
    cases a0 : l0.all (fun x => decide (20 ≤ x ∧ x ≤ 100)) with
    | false => simp
    | true =>
      rw [if_pos rfl]
      by_cases c1 : l1.length = l0.length
      · by_cases c2 : l2.length = l0.length
        · by_cases c3 : l3.length = l0.length
          · have hL := impl_l0 l0 l1 l2 l3 a h1 (by omega) (by omega) l1.length k 0 (by omega) (by omega)
            have hL' : impl_GoodTurns.l0 k l1 (l1.length : Int) 0 l0 l1 l2 l3 a = some (qOk l1 l2 && (l2.all (fun x => decide (0 ≤ x ∧ x ≤ 19)) && l3.all (fun x => decide (0 ≤ x ∧ x ≤ 1000000)))) := by simpa using hL
            have c1' : (l1.length : Int) = (l0.length : Int) := by omega
            have c2' : (l2.length : Int) = (l0.length : Int) := by omega
            have c3' : (l3.length : Int) = (l0.length : Int) := by omega
            rw [if_pos c1', if_pos c2', if_pos c3', hL']
            simp only [c1, c2, c3, decide_true, Bool.true_and]
            cases decide (0 ≤ a ∧ a ≤ wrap64 ((l0.length : Int) - 1)) <;> rfl
          · have c3' : ¬ (l3.length : Int) = (l0.length : Int) := by omega
            simp [c3, c3']
        · have c2' : ¬ (l2.length : Int) = (l0.length : Int) := by omega
          simp [c2, c2']
      · have c1' : ¬ (l1.length : Int) = (l0.length : Int) := by omega
        simp [c1, c1']
  · simp only [c0, decide_false, Bool.false_and]
    simp

end Go.Proofs.Ytfbiekobmgclhaa.Pure
