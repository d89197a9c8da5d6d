import Derived.Test.YtieigkiaihcgeaaBL
import Derived.Test.YtieigkiaihcgeaaPf11
import Derived.Test.YtieigkiaihcgeaaPf13
import Derived.Test.YtieigkiaihcgeaaPf15
namespace Go.Proofs.Ytieigkiaihcgeaa.Pure
open Go.RowKit Go.Proofs.Ytieigkiaihcgeaa.P Go.Proofs.YtieigkiaihcgeaaW.PrintWords Go.Proofs.YtieigkiaihcgeaaW.PrintLast Go.Proofs.Ytieigkiaihcgeaa.Opn
set_option linter.unusedVariables false
set_option linter.unusedSimpArgs false

def cvSeen (x : S25) : S30 := ⟨x.f0, x.f1, x.f2⟩
theorem rdSeen (l : List S30) (i : Nat) (h : i < l.length) : rd_T30 l (i : Int) = l[i] := by
  simp [rd_T30, List.getD_eq_getElem?_getD, List.getElem?_eq_getElem h]
theorem rdLSeen (l : List S25) (i : Nat) (h : i < l.length) : rd_T25 l (i : Int) = l[i] := by
  simp [rd_T25, List.getD_eq_getElem?_getD, List.getElem?_eq_getElem h]
theorem drop_rdSeen (l : List S30) (i : Nat) (h : i < l.length) : l.drop i = rd_T30 l (i : Int) :: l.drop (i + 1) := by
  rw [List.drop_eq_getElem_cons h, rdSeen l i h]
theorem szSeenS_ok (l : List S25) (a : Int) (ha : 0 ≤ a) (ha2 : a ≤ 1048576) (h : (l.length : Int) ≤ a) : laws_szSeenS.f l a = some (a - l.length) := by
  unfold laws_szSeenS.f
  rw [wrap_id (by omega) (by omega), if_neg (by omega)]
theorem szSeenS_big (l : List S25) (a : Int) (ha : 0 ≤ a) (ha2 : a ≤ 1048576) (hl : l.length ≤ 9223372036854775807) (h : ¬ (l.length : Int) ≤ a) : laws_szSeenS.f l a = some (-1) := by
  unfold laws_szSeenS.f
  rw [wrap_id (by omega) (by omega), if_pos (by omega)]
theorem toSeenS_l0 (x : List S25) (hn : x.length ≤ 1048576) : ∀ (d k i : Nat) (y : List S30), i + d = x.length → d < k → y.length = x.length → y.take i = (x.map cvSeen).take i → laws_toSeenS.l0 k x y (i : Int) = some (x.map cvSeen) := by
  intro d
  induction d with
  | zero =>
    intro k i y hi hk hy ht
    obtain ⟨k, rfl⟩ := round hk
    simp only [laws_toSeenS.l0]
    rw [if_neg (by omega)]
    rw [List.take_of_length_le (by omega), List.take_of_length_le (by simp; omega)] at ht
    rw [ht]
  | succ d ih =>
    intro k i y hi hk hy ht
    obtain ⟨k, rfl⟩ := round hk
    simp only [laws_toSeenS.l0, laws_toSeen.f, Option.bind_some]
    rw [if_pos (by omega), if_pos (by omega), if_pos (by omega), wrap_id (by omega) (by omega), Int.toNat_natCast]
    have := ih k (i + 1) (y.set i (cvSeen (rd_T25 x i))) (by omega) (by omega) (by simpa using hy) (by
      rw [take_set_succ _ _ (by omega), ht, List.take_succ_eq_append_getElem (by simp; omega), rdLSeen x i (by omega), List.getElem_map])
    simpa [cvSeen] using this
theorem toSeenS (x : List S25) (hn : x.length ≤ 1048576) (k : Nat) (hk : x.length < k) : laws_toSeenS.f k x = some (x.map cvSeen) := by
  unfold laws_toSeenS.f
  rw [if_pos (by omega), if_pos (by omega), Int.toNat_natCast]
  exact toSeenS_l0 x hn x.length k 0 _ (by omega) hk (by simp) (by simp)
theorem eqSeen_refl (x : S30) : laws_eqSeen.f x.f0 x.f1 x.f2 x.f0 x.f1 x.f2 = some true := by
  unfold laws_eqSeen.f
  simp
theorem eqSeenS_l0 (x : List S30) (hn : x.length ≤ 1048576) : ∀ (d k i : Nat), i + d = x.length → d < k → laws_eqSeenS.l0 k x x (i : Int) = some true := by
  intro d
  induction d with
  | zero =>
    intro k i hi hk
    obtain ⟨k, rfl⟩ := round hk
    simp only [laws_eqSeenS.l0]
    rw [if_neg (by omega)]
  | succ d ih =>
    intro k i hi hk
    obtain ⟨k, rfl⟩ := round hk
    simp only [laws_eqSeenS.l0]
    rw [if_pos (by omega), if_pos (by omega), if_pos (by omega), eqSeen_refl, Option.bind_some, if_pos rfl, wrap_id (by omega) (by omega)]
    have := ih k (i + 1) (by omega) (by omega)
    simpa using this
theorem eqSeenS (x : List S30) (hn : x.length ≤ 1048576) (k : Nat) (hk : x.length < k) : laws_eqSeenS.f k x x = some true := by
  unfold laws_eqSeenS.f
  rw [if_pos rfl]
  exact eqSeenS_l0 x hn x.length k 0 (by omega) hk

end Go.Proofs.Ytieigkiaihcgeaa.Pure
