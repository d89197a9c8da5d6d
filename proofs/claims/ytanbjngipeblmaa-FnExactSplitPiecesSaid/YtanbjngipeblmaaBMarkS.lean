import Derived.Test.YtanbjngipeblmaaBMarkT
import Derived.Test.YtanbjngipeblmaaBStrS
import Derived.Test.YtanbjngipeblmaaPf27
import Derived.Test.YtanbjngipeblmaaPf28
namespace Go.Proofs.Ytanbjngipeblmaa.Pure
open Go.RowKit Go.Proofs.Ytanbjngipeblmaa.P Go.Proofs.YtanbjngipeblmaaW.PrintWords Go.Proofs.YtanbjngipeblmaaW.PrintLast Go.Proofs.Ytanbjngipeblmaa.Opn
set_option linter.unusedVariables false
set_option linter.unusedSimpArgs false

noncomputable def mts (a : Int) : Nat → List ByteArray
  | 0 => []
  | n + 1 => mt a :: mts (a + 1) n
theorem mts_length (a : Int) (n : Nat) : (mts a n).length = n := by
  induction n generalizing a with
  | zero => rfl
  | succ n ih => simp [mts, ih]
theorem mts_rd (n : Nat) : ∀ (a : Int) (i : Nat), i < n → rdOf ByteArray.empty (mts a n) (i : Int) = mt (a + i) := by
  induction n with
  | zero => intro a i h; omega
  | succ n ih =>
    intro a i h
    cases i with
    | zero => simp [mts, rdOf]
    | succ i =>
      have := ih (a + 1) i (by omega)
      simp only [mts, rdOf, Int.toNat_natCast, List.getD_cons_succ] at this ⊢
      rw [this]
      congr 1
      push_cast
      omega
theorem mts_snoc (n : Nat) : ∀ (a : Int), mts a (n + 1) = mts a n ++ [mt (a + n)] := by
  induction n with
  | zero => intro a; simp [mts]
  | succ n ih =>
    intro a
    rw [mts, ih (a + 1)]
    simp only [mts, List.cons_append, List.cons.injEq, true_and]
    congr 3
    push_cast
    omega
theorem markStringS_l0 (a : Int) (ha : 0 ≤ a) (n : Nat) (h : a + n < 10000000) : ∀ (d k i : Nat) (y : List ByteArray), i + d = n → d + 8 < k → y.length = n → y.take i = mts a i → laws_markStringS.l0 k y (a + i) (i : Int) = some (a + n, mts a n) := by
  intro d
  induction d with
  | zero =>
    intro k i y hi hk hy ht
    obtain ⟨k, rfl⟩ := round (d := 0) (k := k) (by omega)
    rw [laws_markStringS.l0, if_neg (by omega)]
    rw [List.take_of_length_le (by omega)] at ht
    have : i = n := by omega
    rw [ht, this]
  | succ d ih =>
    intro k i y hi hk hy ht
    obtain ⟨k, rfl⟩ := round (d := 0) (k := k) (by omega)
    have e : ((i + 1 : Nat) : Int) = (i : Int) + 1 := by omega
    have e2 : a + ((i + 1 : Nat) : Int) = a + (i : Int) + 1 := by omega
    rw [laws_markStringS.l0, if_pos (by omega), markText_mt (a + i) (by omega) k (by omega), Option.bind_some, if_pos (by omega), wrap_id (x := a + (i : Int) + 1) (by omega) (by omega), wrap_id (x := (i : Int) + 1) (by omega) (by omega), ← e2, ← e, Int.toNat_natCast]
    refine ih k (i + 1) _ (by omega) (by omega) (by simpa using hy) ?_
    rw [take_set_succ _ _ (by omega), ht, mts_snoc]
theorem markStringS (l : List ByteArray) (a : Int) (ha : 0 ≤ a) (h : a + l.length < 10000000) (k : Nat) (hk : l.length + 8 < k) : laws_markStringS.f k l a = some (a + l.length, mts a l.length) := by
  unfold laws_markStringS.f
  have := markStringS_l0 a ha l.length h l.length k 0 l (by omega) hk rfl (by simp [mts])
  simpa using this
theorem heldStringS_l0 (a : Int) (ha : 0 ≤ a) (n : Nat) (h : a + n < 10000000) : ∀ (d k i : Nat), i + d = n → d + 8 < k → laws_heldStringS.l0 k (mts a n) (a + i) (i : Int) = some (a + n) := by
  intro d
  induction d with
  | zero =>
    intro k i hi hk
    obtain ⟨k, rfl⟩ := round (d := 0) (k := k) (by omega)
    rw [laws_heldStringS.l0, mts_length, if_neg (by omega)]
    have : i = n := by omega
    rw [this]
  | succ d ih =>
    intro k i hi hk
    obtain ⟨k, rfl⟩ := round (d := 0) (k := k) (by omega)
    have e : ((i + 1 : Nat) : Int) = (i : Int) + 1 := by omega
    have e2 : a + ((i + 1 : Nat) : Int) = a + (i : Int) + 1 := by omega
    rw [laws_heldStringS.l0, mts_length, if_pos (by omega), if_pos (by omega), markText_mt (a + i) (by omega) k (by omega), Option.bind_some, mts_rd n a i (by omega), if_pos rfl, wrap_id (x := a + (i : Int) + 1) (by omega) (by omega), wrap_id (x := (i : Int) + 1) (by omega) (by omega), ← e2, ← e]
    exact ih k (i + 1) (by omega) (by omega)
theorem heldStringS (n : Nat) (a : Int) (ha : 0 ≤ a) (h : a + n < 10000000) (k : Nat) (hk : n + 8 < k) : laws_heldStringS.f k (mts a n) a = some (a + n) := by
  unfold laws_heldStringS.f
  have := heldStringS_l0 a ha n h n k 0 (by omega) hk
  simpa using this

end Go.Proofs.Ytanbjngipeblmaa.Pure
