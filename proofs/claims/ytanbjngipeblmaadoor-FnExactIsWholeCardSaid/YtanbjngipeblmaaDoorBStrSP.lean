import Derived.Test.YtanbjngipeblmaaDoorBL
import Derived.Test.YtanbjngipeblmaaDoorPf4
import Derived.Test.YtanbjngipeblmaaDoorPf6
import Derived.Test.YtanbjngipeblmaaDoorPf8
namespace Go.Proofs.YtanbjngipeblmaaDoor.Pure
open Go.RowKit Go.Proofs.YtanbjngipeblmaaDoor.P Go.Proofs.YtanbjngipeblmaaDoorW.PrintWords Go.Proofs.YtanbjngipeblmaaDoorW.PrintLast Go.Proofs.YtanbjngipeblmaaDoor.Opn
set_option linter.unusedVariables false
set_option linter.unusedSimpArgs false

theorem rdS_nat (l : List ByteArray) (i : Nat) (h : i < l.length) : rdOf ByteArray.empty l (i : Int) = l[i] := by
  simp [rdOf, List.getD_eq_getElem?_getD, List.getElem?_eq_getElem h]
theorem drop_rdS (l : List ByteArray) (i : Nat) (h : i < l.length) : l.drop i = rdOf ByteArray.empty l (i : Int) :: l.drop (i + 1) := by
  rw [List.drop_eq_getElem_cons h, rdS_nat l i h]
def tot : List ByteArray → Nat
  | [] => 0
  | x :: l => x.size + tot l
theorem szStringS_l0 (l : List ByteArray) (hw : ∀ x, x ∈ l → x.size ≤ 9223372036854775807) (hn : l.length ≤ 1048576) : ∀ (d k i : Nat) (a : Int), i + d = l.length → d < k → 0 ≤ a → a ≤ 1048576 → laws_szStringS.l0 k l a (i : Int) = some (if (tot (l.drop i) : Int) ≤ a then a - tot (l.drop i) else -1) := by
  intro d
  induction d with
  | zero =>
    intro k i a h hk h0 h1
    obtain ⟨k, rfl⟩ := round hk
    rw [laws_szStringS.l0, if_neg (by omega), List.drop_of_length_le (by omega), tot, if_pos (by omega)]
    simp
  | succ d ih =>
    intro k i a h hk h0 h1
    obtain ⟨k, rfl⟩ := round hk
    have hs : (rdOf ByteArray.empty l (i : Int)).size ≤ 9223372036854775807 := by
      rw [rdS_nat l i (by omega)]
      exact hw _ (List.getElem_mem _)
    have e : ((i + 1 : Nat) : Int) = (i : Int) + 1 := by omega
    rw [laws_szStringS.l0, if_pos (by omega), if_pos (by omega), wrap_id (x := a - _) (by omega) (by omega), drop_rdS l i (by omega), tot]
    by_cases hc : ((rdOf ByteArray.empty l (i : Int)).size : Int) ≤ a
    · rw [if_neg (by omega), wrap_id (x := (i : Int) + 1) (by omega) (by omega), ← e, ih k (i + 1) _ (by omega) (by omega) (by omega) (by omega)]
      by_cases hd : (tot (l.drop (i + 1)) : Int) ≤ a - ((rdOf ByteArray.empty l (i : Int)).size : Int)
      · rw [if_pos hd, if_pos (by push_cast; omega)]
        congr 1
        push_cast
        omega
      · rw [if_neg hd, if_neg (by push_cast; omega)]
    · rw [if_pos (by omega), if_neg (by push_cast; omega)]
theorem szStringS_ok (l : List ByteArray) (hw : ∀ x, x ∈ l → x.size ≤ 9223372036854775807) (h : (l.length : Int) + tot l ≤ 1048576) (k : Nat) (hk : l.length < k) : ∃ r, laws_szStringS.f k l 1048576 = some r ∧ 0 ≤ r := by
  unfold laws_szStringS.f
  rw [wrap_id (by omega) (by omega), if_neg (by omega)]
  have := szStringS_l0 l hw (by omega) l.length k 0 (1048576 - (l.length : Int)) (by omega) hk (by omega) (by omega)
  rw [show ((0 : Nat) : Int) = 0 from rfl, List.drop_zero, if_pos (by omega)] at this
  exact ⟨_, this, by omega⟩
theorem szStringS_big (l : List ByteArray) (hw : ∀ x, x ∈ l → x.size ≤ 9223372036854775807) (hl : l.length ≤ 9223372036854775807) (h : ¬ (l.length : Int) + tot l ≤ 1048576) : ∃ k, laws_szStringS.f k l 1048576 = some (-1) := by
  unfold laws_szStringS.f
  by_cases hc : (l.length : Int) ≤ 1048576
  · refine ⟨l.length + 1, ?_⟩
    rw [wrap_id (by omega) (by omega), if_neg (by omega)]
    have := szStringS_l0 l hw (by omega) l.length (l.length + 1) 0 (1048576 - (l.length : Int)) (by omega) (by omega) (by omega) (by omega)
    rw [show ((0 : Nat) : Int) = 0 from rfl, List.drop_zero, if_neg (by omega)] at this
    exact this
  · exact ⟨0, by rw [wrap_id (by omega) (by omega), if_pos (by omega)]⟩
theorem toStringS_l0 (x : List ByteArray) (hn : x.length ≤ 1048576) : ∀ (d k i : Nat) (y : List ByteArray), i + d = x.length → d < k → y.length = x.length → y.take i = x.take i → laws_toStringS.l0 k x y (i : Int) = some x := by
  intro d
  induction d with
  | zero =>
    intro k i y hi hk hy ht
    obtain ⟨k, rfl⟩ := round hk
    rw [laws_toStringS.l0, if_neg (by omega)]
    rw [List.take_of_length_le (by omega), List.take_of_length_le (by omega)] at ht
    rw [ht]
  | succ d ih =>
    intro k i y hi hk hy ht
    obtain ⟨k, rfl⟩ := round hk
    have e : ((i + 1 : Nat) : Int) = (i : Int) + 1 := by omega
    rw [laws_toStringS.l0, if_pos (by omega), if_pos (by omega), if_pos (by omega), wrap_id (x := (i : Int) + 1) (by omega) (by omega), Int.toNat_natCast, ← e]
    refine ih k (i + 1) _ (by omega) (by omega) (by simpa using hy) ?_
    rw [take_set_succ _ _ (by omega), ht, rdS_nat x i (by omega), List.take_succ_eq_append_getElem (by omega)]
theorem toStringS (x : List ByteArray) (hn : x.length ≤ 1048576) (k : Nat) (hk : x.length < k) : laws_toStringS.f k x = some x := by
  unfold laws_toStringS.f
  rw [if_pos (by omega), if_pos (by omega), Int.toNat_natCast]
  exact toStringS_l0 x hn x.length k 0 _ (by omega) hk (by simp) (by simp)
theorem eqStringS_l0 (x : List ByteArray) (hn : x.length ≤ 1048576) : ∀ (d k i : Nat), i + d = x.length → d < k → laws_eqStringS.l0 k x x (i : Int) = some true := by
  intro d
  induction d with
  | zero =>
    intro k i hi hk
    obtain ⟨k, rfl⟩ := round hk
    rw [laws_eqStringS.l0, if_neg (by omega)]
  | succ d ih =>
    intro k i hi hk
    obtain ⟨k, rfl⟩ := round hk
    have e : ((i + 1 : Nat) : Int) = (i : Int) + 1 := by omega
    rw [laws_eqStringS.l0, if_pos (by omega), if_pos (by omega), if_pos (by omega), if_pos rfl, wrap_id (x := (i : Int) + 1) (by omega) (by omega), ← e]
    exact ih k (i + 1) (by omega) (by omega)
theorem eqStringS (x : List ByteArray) (hn : x.length ≤ 1048576) (k : Nat) (hk : x.length < k) : laws_eqStringS.f k x x = some true := by
  unfold laws_eqStringS.f
  rw [if_pos rfl]
  exact eqStringS_l0 x hn x.length k 0 (by omega) hk

end Go.Proofs.YtanbjngipeblmaaDoor.Pure
