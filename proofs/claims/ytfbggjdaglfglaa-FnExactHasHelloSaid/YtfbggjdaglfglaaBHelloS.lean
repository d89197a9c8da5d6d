import Derived.Test.YtfbggjdaglfglaaBL
import Derived.Test.YtfbggjdaglfglaaPf7
import Derived.Test.YtfbggjdaglfglaaPf9
import Derived.Test.YtfbggjdaglfglaaPf12
namespace Go.Proofs.Ytfbggjdaglfglaa.Pure
open Go.RowKit Go.Proofs.Ytfbggjdaglfglaa.P Go.Proofs.YtfbggjdaglfglaaW.PrintWords Go.Proofs.YtfbggjdaglfglaaW.PrintLast Go.Proofs.Ytfbggjdaglfglaa.Opn
set_option linter.unusedVariables false
set_option linter.unusedSimpArgs false

def cvHello (x : S24) : S30 := ⟨x.f0, x.f1, x.f2⟩
theorem rdHello (l : List S30) (i : Nat) (h : i < l.length) : rd_T30 l (i : Int) = l[i] := by
  simp [rd_T30, List.getD_eq_getElem?_getD, List.getElem?_eq_getElem h]
theorem rdLHello (l : List S24) (i : Nat) (h : i < l.length) : rd_T24 l (i : Int) = l[i] := by
  simp [rd_T24, List.getD_eq_getElem?_getD, List.getElem?_eq_getElem h]
theorem drop_rdHello (l : List S30) (i : Nat) (h : i < l.length) : l.drop i = rd_T30 l (i : Int) :: l.drop (i + 1) := by
  rw [List.drop_eq_getElem_cons h, rdHello l i h]
theorem szHelloS_ok (l : List S24) (a : Int) (ha : 0 ≤ a) (ha2 : a ≤ 1048576) (h : (l.length : Int) ≤ a) : laws_szHelloS.f l a = some (a - l.length) := by
  unfold laws_szHelloS.f
  rw [wrap_id (by omega) (by omega), if_neg (by omega)]
theorem szHelloS_big (l : List S24) (a : Int) (ha : 0 ≤ a) (ha2 : a ≤ 1048576) (hl : l.length ≤ 9223372036854775807) (h : ¬ (l.length : Int) ≤ a) : laws_szHelloS.f l a = some (-1) := by
  unfold laws_szHelloS.f
  rw [wrap_id (by omega) (by omega), if_pos (by omega)]
theorem toHelloS_l0 (x : List S24) (hn : x.length ≤ 1048576) : ∀ (d k i : Nat) (y : List S30), i + d = x.length → d < k → y.length = x.length → y.take i = (x.map cvHello).take i → laws_toHelloS.l0 k x y (i : Int) = some (x.map cvHello) := by
  intro d
  induction d with
  | zero =>
    intro k i y hi hk hy ht
    obtain ⟨k, rfl⟩ := round hk
    simp only [laws_toHelloS.l0]
    rw [if_neg (by omega)]
    rw [List.take_of_length_le (by omega), List.take_of_length_le (by simp; omega)] at ht
    rw [ht]
  | succ d ih =>
    intro k i y hi hk hy ht
    obtain ⟨k, rfl⟩ := round hk
    simp only [laws_toHelloS.l0, laws_toHello.f, Option.bind_some]
    rw [if_pos (by omega), if_pos (by omega), if_pos (by omega), wrap_id (by omega) (by omega), Int.toNat_natCast]
    have := ih k (i + 1) (y.set i (cvHello (rd_T24 x i))) (by omega) (by omega) (by simpa using hy) (by
      rw [take_set_succ _ _ (by omega), ht, List.take_succ_eq_append_getElem (by simp; omega), rdLHello x i (by omega), List.getElem_map])
    simpa [cvHello] using this
theorem toHelloS (x : List S24) (hn : x.length ≤ 1048576) (k : Nat) (hk : x.length < k) : laws_toHelloS.f k x = some (x.map cvHello) := by
  unfold laws_toHelloS.f
  rw [if_pos (by omega), if_pos (by omega), Int.toNat_natCast]
  exact toHelloS_l0 x hn x.length k 0 _ (by omega) hk (by simp) (by simp)
theorem eqHello_refl (x : S30) : laws_eqHello.f x.f0 x.f1 x.f2 x.f0 x.f1 x.f2 = some true := by
  unfold laws_eqHello.f
  simp
theorem eqHelloS_l0 (x : List S30) (hn : x.length ≤ 1048576) : ∀ (d k i : Nat), i + d = x.length → d < k → laws_eqHelloS.l0 k x x (i : Int) = some true := by
  intro d
  induction d with
  | zero =>
    intro k i hi hk
    obtain ⟨k, rfl⟩ := round hk
    simp only [laws_eqHelloS.l0]
    rw [if_neg (by omega)]
  | succ d ih =>
    intro k i hi hk
    obtain ⟨k, rfl⟩ := round hk
    simp only [laws_eqHelloS.l0]
    rw [if_pos (by omega), if_pos (by omega), if_pos (by omega), eqHello_refl, Option.bind_some, if_pos rfl, wrap_id (by omega) (by omega)]
    have := ih k (i + 1) (by omega) (by omega)
    simpa using this
theorem eqHelloS (x : List S30) (hn : x.length ≤ 1048576) (k : Nat) (hk : x.length < k) : laws_eqHelloS.f k x x = some true := by
  unfold laws_eqHelloS.f
  rw [if_pos rfl]
  exact eqHelloS_l0 x hn x.length k 0 (by omega) hk

end Go.Proofs.Ytfbggjdaglfglaa.Pure
