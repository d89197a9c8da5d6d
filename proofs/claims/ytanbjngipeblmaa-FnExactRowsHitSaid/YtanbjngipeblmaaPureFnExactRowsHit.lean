import Derived.Test.YtanbjngipeblmaaQFnExactRowsHit
import Derived.Test.YtanbjngipeblmaaBCompact
import Derived.Test.YtanbjngipeblmaaBIn
import Derived.Test.YtanbjngipeblmaaBEqI
import Derived.Test.YtanbjngipeblmaaBMarkI
import Derived.Test.YtanbjngipeblmaaPf33
import Derived.Test.YtanbjngipeblmaaPf34
namespace Go.Proofs.Ytanbjngipeblmaa.Pure
open Go.RowKit Go.Proofs.Ytanbjngipeblmaa.P Go.Proofs.YtanbjngipeblmaaW.PrintWords Go.Proofs.YtanbjngipeblmaaW.PrintLast Go.Proofs.Ytanbjngipeblmaa.Opn
set_option linter.unusedVariables false
set_option linter.unusedSimpArgs false

def hitB (fr deep : Int) (n : Nat) (r : Int) : Bool := (List.range n).any fun i : Nat => Int.tmod (fr + (i : Int)) deep == r
theorem hitB_succ (fr deep : Int) (n : Nat) (r : Int) : hitB fr deep (n + 1) r = (hitB fr deep n r || (Int.tmod (fr + (n : Int)) deep == r)) := by
  unfold hitB
  rw [List.range_succ, List.any_append]
  simp
def hitsL (fr deep : Int) (n : Nat) : List Int := (List.range n).map fun i : Nat => Int.tmod (fr + (i : Int)) deep
theorem hitsL_succ (fr deep : Int) (n : Nat) : hitsL fr deep (n + 1) = hitsL fr deep n ++ [Int.tmod (fr + (n : Int)) deep] := by
  unfold hitsL
  rw [List.range_succ, List.map_append]
  rfl
theorem mem_hitsL (fr deep : Int) (n : Nat) (r : Int) : r ∈ hitsL fr deep n ↔ hitB fr deep n r = true := by
  unfold hitsL hitB
  rw [List.mem_map, List.any_eq_true]
  simp
def outL (fr deep : Int) (n : Nat) : Nat → Nat → List Int
  | _, 0 => []
  | r, d + 1 => (if hitB fr deep n (r : Int) = true then [(r : Int)] else []) ++ outL fr deep n (r + 1) d
theorem mem_outL (fr deep : Int) (n : Nat) : ∀ (d r : Nat) (x : Int), x ∈ outL fr deep n r d ↔ (r : Int) ≤ x ∧ x < (r : Int) + d ∧ hitB fr deep n x = true := by
  intro d
  induction d with
  | zero => intro r x; simp [outL]; omega
  | succ d ih =>
    intro r x
    rw [outL, List.mem_append, ih]
    by_cases e : x = (r : Int)
    · subst e
      by_cases hb : hitB fr deep n (r : Int) = true
      · simp [hb]; omega
      · simp [hb]
    · have : x ∉ (if hitB fr deep n (r : Int) = true then [(r : Int)] else []) := by
        split <;> simp [e]
      simp only [this, false_or]
      constructor
      · rintro ⟨h1, h2, h3⟩
        exact ⟨by omega, by omega, h3⟩
      · rintro ⟨h1, h2, h3⟩
        exact ⟨by omega, by omega, h3⟩
theorem asc_outL (fr deep : Int) (n : Nat) : ∀ (d r : Nat), (outL fr deep n r d).Pairwise (· < ·) := by
  intro d
  induction d with
  | zero => intro r; exact List.Pairwise.nil
  | succ d ih =>
    intro r
    rw [outL]
    split
    · rw [List.singleton_append]
      refine List.pairwise_cons.2 ⟨fun y hy => ?_, ih _⟩
      have := ((mem_outL fr deep n d (r + 1) y).1 hy).1
      omega
    · rw [List.nil_append]
      exact ih _
theorem outL_len (fr deep : Int) (n : Nat) : ∀ (d r : Nat), (outL fr deep n r d).length ≤ d := by
  intro d
  induction d with
  | zero => intro r; simp [outL]
  | succ d ih =>
    intro r
    have := ih (r + 1)
    rw [outL, List.length_append]
    split <;> simp <;> omega
theorem specHit_l1 (deep fr : Int) (n : Nat) (out : List Int) (r : Nat) (hd : 1 ≤ deep ∧ deep ≤ 12) (hf : 0 ≤ fr) (hn : fr + n ≤ 120) : ∀ (d k i : Nat), i + d = n → spec_RowsHit.l1 (k + d) deep fr (n : Int) out (r : Int) (hitB fr deep i (r : Int)) (fr + (i : Int)) = spec_RowsHit.l1 k deep fr (n : Int) out (r : Int) (hitB fr deep n (r : Int)) (fr + (n : Int)) := by
  intro d
  induction d with
  | zero =>
    intro k i h
    have : i = n := by omega
    subst this
    rfl
  | succ d ih =>
    intro k i h
    have := ih k (i + 1) (by omega)
    rw [hitB_succ] at this
    have e : k + (d + 1) = (k + d) + 1 := by omega
    rw [e, spec_RowsHit.l1, wrap_id (x := fr + (n : Int)) (by omega) (by omega), if_pos (by omega), wrap_id (x := fr + (i : Int) + 1) (by omega) (by omega), ← this]
    have q : ((i + 1 : Nat) : Int) = (i : Int) + 1 := by omega
    cases hb : hitB fr deep i (r : Int) with
    | true => rw [if_pos rfl, Bool.true_or, q, Int.add_assoc]
    | false => rw [if_neg (by simp), if_neg (by omega), Bool.false_or, q, Int.add_assoc]
theorem specHit_l0 (deep : Nat) (fr : Int) (n : Nat) (hd : 1 ≤ deep ∧ deep ≤ 12) (hf : 0 ≤ fr) (hn : fr + n ≤ 120) : ∀ (d k r : Nat) (out : List Int), r + d = deep → out.length ≤ r → d * (n + 2) < k → spec_RowsHit.l0 k (deep : Int) fr (n : Int) out (r : Int) = some (out ++ outL fr deep n r d, true) := by
  intro d
  induction d with
  | zero =>
    intro k r out h ho hk
    obtain ⟨k, rfl⟩ := round hk
    rw [spec_RowsHit.l0, if_neg (by omega), outL, List.append_nil]
  | succ d ih =>
    intro k r out h ho hk
    have hm : (d + 1) * (n + 2) = d * (n + 2) + (n + 2) := by rw [Nat.add_mul, Nat.one_mul]
    obtain ⟨k, rfl⟩ : ∃ m, k = ((m + 1) + n) + 1 := ⟨k - (n + 2), by omega⟩
    have h1 := specHit_l1 (deep : Int) fr n out r ⟨by omega, by omega⟩ hf hn n (k + 1) 0 (by omega)
    rw [show hitB fr (deep : Int) 0 (r : Int) = false from rfl, show fr + ((0 : Nat) : Int) = fr by omega] at h1
    rw [spec_RowsHit.l0, if_pos (by omega), h1, spec_RowsHit.l1, wrap_id (x := fr + (n : Int)) (by omega) (by omega), if_neg (by omega), wrap_id (x := (r : Int) + 1) (by omega) (by omega), outL]
    have q : ((r + 1 : Nat) : Int) = (r : Int) + 1 := by omega
    by_cases hb : hitB fr (deep : Int) n (r : Int) = true
    · have := ih k (r + 1) (out ++ [(r : Int)]) (by omega) (by simp; omega) (by omega)
      rw [q] at this
      rw [if_pos hb, if_pos (by omega), this, if_pos hb, List.append_assoc]
    · have := ih k (r + 1) out (by omega) (by omega) (by omega)
      rw [q] at this
      rw [if_neg hb, this, if_neg hb, List.nil_append]
theorem implHit_l0 (deep : Int) (fr : Int) (n : Nat) (hd : 1 ≤ deep ∧ deep ≤ 12) (hf : 0 ≤ fr) (hn : fr + n ≤ 120) : ∀ (d k i : Nat), i + d = n → d < k → impl_RowsHit.l0 k deep fr (hitsL fr deep i) (n : Int) (i : Int) = (slices_Sort_int_int.f (hitsL fr deep n)).bind fun t109 => (slices_Compact_int_int.f t109).bind fun t110 => some (t110, true) := by
  intro d
  induction d with
  | zero =>
    intro k i h hk
    obtain ⟨k, rfl⟩ := round hk
    have : i = n := by omega
    subst this
    rw [impl_RowsHit.l0, if_neg (by omega)]
  | succ d ih =>
    intro k i h hk
    obtain ⟨k, rfl⟩ := round hk
    have := ih k (i + 1) (by omega) (by omega)
    have q : ((i + 1 : Nat) : Int) = (i : Int) + 1 := by omega
    have hl : (hitsL fr deep i).length = i := by simp [hitsL]
    rw [hitsL_succ, q] at this
    rw [impl_RowsHit.l0, if_pos (by omega), if_neg (by omega), if_pos (by omega), wrap_id (x := (i : Int) + 1) (by omega) (by omega), wrap_id (x := fr + (i : Int)) (by omega) (by omega), this]
theorem hit_eq (deep : Nat) (fr : Int) (n : Nat) (hd : 1 ≤ deep ∧ deep ≤ 12) (hf : 0 ≤ fr) (hn : fr + n ≤ 120) : ((slices_Sort_int_int.f (hitsL fr deep n)).bind fun t109 => (slices_Compact_int_int.f t109).bind fun t110 => some (t110, true)) = some (outL fr deep n 0 deep, true) := by
  have hl : (hitsL fr deep n).length = n := by simp [hitsL]
  have h1 := sort_ok (hitsL fr deep n)
  have h2 := compact_ok _ h1.1
  have h3 : (hitsL fr deep n).mergeSort.length = n := by rw [List.length_mergeSort, hl]
  unfold slices_Sort_int_int.f slices_Compact_int_int.f
  rw [if_pos (by omega), Option.bind_some, if_pos (by rw [List.length_mergeSort]; omega), Option.bind_some]
  rw [asc_uniq _ (outL fr deep n 0 deep) h2.1 (asc_outL _ _ _ _ _) fun x => ?_]
  rw [h2.2, h1.2, mem_hitsL, mem_outL]
  refine ⟨fun h => ?_, fun h => h.2.2⟩
  have h' := (mem_hitsL _ _ _ _).2 h
  obtain ⟨i, hi, rfl⟩ := List.mem_map.1 h'
  have a : 0 ≤ fr + (i : Int) := by omega
  rw [Int.tmod_eq_emod_of_nonneg a]
  have := Int.emod_nonneg (fr + (i : Int)) (show (deep : Int) ≠ 0 by omega)
  have := Int.emod_lt_of_pos (fr + (i : Int)) (show (0 : Int) < (deep : Int) by omega)
  refine ⟨by omega, by omega, ?_⟩
  rw [Int.tmod_eq_emod_of_nonneg a] at h
  exact h
def okD (a0 a1 : Int) : Bool := decide (1 ≤ a1 ∧ a1 ≤ 12) && (decide (0 ≤ a0 ∧ a0 ≤ 120) && (Int.tmod a0 a1 == 0))
theorem deep_okD (a0 a1 : Int) : spec_l12Deep.f a0 a1 = some (okD a0 a1) := by
  unfold spec_l12Deep.f okD
  simp only [spec_in, Option.bind_some]
  by_cases h1 : 1 ≤ a1 ∧ a1 ≤ 12
  · have h2 : ¬ a1 = 0 := by omega
    rw [if_pos (decide_eq_true h1), if_neg h2, decide_eq_true h1, Bool.true_and]
    by_cases h0 : 0 ≤ a0 ∧ a0 ≤ 120
    · rw [if_pos (decide_eq_true h0), decide_eq_true h0, Bool.true_and]
    · rw [if_neg (by rw [decide_eq_false h0]; decide), decide_eq_false h0, Bool.false_and]
  · rw [if_neg (by rw [decide_eq_false h1]; decide), decide_eq_false h1, Bool.false_and]
theorem spread_okD (a0 a1 : Int) : impl_isSpread.f a0 a1 = some (okD a0 a1) := by
  unfold impl_isSpread.f okD
  simp only [impl_in_, Option.bind_some]
  by_cases h0 : 0 ≤ a0 ∧ a0 ≤ 120
  · rw [if_pos (decide_eq_true h0), decide_eq_true h0, Bool.true_and]
    by_cases h1 : 1 ≤ a1 ∧ a1 ≤ 12
    · have h2 : ¬ a1 = 0 := by omega
      rw [if_pos (decide_eq_true h1), if_neg h2, decide_eq_true h1, Bool.true_and]
    · rw [if_neg (by rw [decide_eq_false h1]; decide), decide_eq_false h1, Bool.false_and]
  · rw [if_neg (by rw [decide_eq_false h0]; decide), decide_eq_false h0, Bool.false_and, Bool.and_false]
theorem rowsHit_both (a0 a1 a2 a3 : Int) (k : Nat) (hk : 1700 < k) : ∃ r b, spec_RowsHit.f k a0 a1 a2 a3 = some (r, b) ∧ impl_RowsHit.f k a0 a1 a2 a3 = some (r, b) ∧ r.length ≤ 12 := by
  obtain ⟨k, rfl⟩ := round hk
  unfold spec_RowsHit.f impl_RowsHit.f impl_isBurst.f
  simp only [deep_okD, spread_okD, impl_in_, spec_in, Option.bind_some]
  have no : ∃ r b, spec_RowsHit.j0 (k + 1) a1 a2 a3 true = some (r, b) ∧ impl_RowsHit.j0 (k + 1) a1 a2 a3 true = some (r, b) ∧ r.length ≤ 12 := by
    rw [spec_RowsHit.j0, if_pos rfl, impl_RowsHit.j0, if_pos rfl]
    exact ⟨[], false, rfl, rfl, by simp⟩
  by_cases hd : okD a0 a1 = true
  · rw [if_pos hd, if_pos hd]
    have hd' := hd
    unfold okD at hd'
    simp only [Bool.and_eq_true, decide_eq_true_eq] at hd'
    rw [if_pos (decide_eq_true hd'.2.1)]
    by_cases h2 : 0 ≤ a2 ∧ a2 ≤ a0
    · rw [if_pos (decide_eq_true h2), if_pos (decide_eq_true h2), Option.bind_some, wrap_id (x := a0 - a2) (by omega) (by omega)]
      by_cases h3 : 0 ≤ a3 ∧ a3 ≤ a0 - a2
      · rw [decide_eq_true h3, Bool.not_true]
        obtain ⟨n, rfl⟩ : ∃ n : Nat, a3 = (n : Int) := ⟨a3.toNat, by omega⟩
        obtain ⟨d, rfl⟩ : ∃ n : Nat, a1 = (n : Int) := ⟨a1.toNat, by omega⟩
        have hm : d * (n + 2) ≤ 12 * 122 := Nat.mul_le_mul (by omega) (by omega)
        have e1 := specHit_l0 d a2 n (by omega) h2.1 (by omega) d k 0 [] (by omega) (by simp) (by omega)
        have e2 := implHit_l0 (d : Int) a2 n (by omega) h2.1 (by omega) n k 0 (by omega) (by omega)
        rw [hit_eq d a2 n (by omega) h2.1 (by omega)] at e2
        rw [spec_RowsHit.j0, if_neg (by simp), impl_RowsHit.j0, if_neg (by simp)]
        refine ⟨_, _, e1, e2, ?_⟩
        have := outL_len a2 (d : Int) n d 0
        rw [List.nil_append]
        omega
      · rw [decide_eq_false h3, Bool.not_false]
        exact no
    · have e2 : decide (0 ≤ a2 ∧ a2 ≤ a0) = false := decide_eq_false h2
      rw [e2, if_neg (by decide), if_neg (by decide), Option.bind_some, Bool.not_false]
      exact no
  · rw [if_neg hd, if_neg hd]
    exact no
theorem FnExactRowsHit : laws_FnExactRowsHit.Pure := by
  intro a0 a1 a2 a3 _ _ _ _
  refine ⟨1710, ?_⟩
  obtain ⟨c, b, h1, h2, h3⟩ := rowsHit_both a0 a1 a2 a3 1710 (by omega)
  obtain ⟨c', b', _, h2', _⟩ := rowsHit_both a0 a1 a2 a3 1709 (by omega)
  have e : (c, b) = (c', b') := by
    have := impl_RowsHit.mono a0 a1 a2 a3 1709 _ h2'
    rw [h2] at this
    exact Option.some.inj this
  simp only [Prod.mk.injEq] at e
  obtain ⟨rfl, rfl⟩ := e
  unfold laws_FnExactRowsHit.f
  rw [h1, h2]
  simp only [Option.bind_some, eqIntS c c (by omega) 1710 (by omega), decide_true, if_true]
  rw [laws_FnExactRowsHit.j0]
  simp only [bne_self_eq_false, Bool.false_eq_true, if_false, markIntS c 1 (by omega) (by omega) 1709 (by omega), Option.bind_some, heldIntS c.length 1 (by omega) (by omega) 1709 (by omega), h2', eqIntS c c (by omega) 1709 (by omega), decide_true, if_true]
  rw [if_neg (by omega), laws_FnExactRowsHit.j1]
  simp only [bne_self_eq_false, Bool.false_eq_true, if_false, heldIntS c.length 1 (by omega) (by omega) 1708 (by omega), Option.bind_some, if_true]
  rw [if_neg (by omega)]

end Go.Proofs.Ytanbjngipeblmaa.Pure
