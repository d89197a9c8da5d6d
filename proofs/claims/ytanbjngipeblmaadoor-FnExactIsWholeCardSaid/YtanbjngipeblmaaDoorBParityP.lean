import Derived.Test.YtanbjngipeblmaaDoorBStrSP
import Derived.Test.YtanbjngipeblmaaDoorBIn
import Derived.Test.YtanbjngipeblmaaDoorPf9
import Derived.Test.YtanbjngipeblmaaDoorPf10
import Derived.Test.YtanbjngipeblmaaDoorPf14
import Derived.Test.YtanbjngipeblmaaDoorPf15
namespace Go.Proofs.YtanbjngipeblmaaDoor.Pure
open Go.RowKit Go.Proofs.YtanbjngipeblmaaDoor.P Go.Proofs.YtanbjngipeblmaaDoorW.PrintWords Go.Proofs.YtanbjngipeblmaaDoorW.PrintLast Go.Proofs.YtanbjngipeblmaaDoor.Opn
set_option linter.unusedVariables false
set_option linter.unusedSimpArgs false

theorem xor_same : ∀ k : Nat, (∀ x5 x11 x12 x13, impl_parity.l0 k x5 x11 x12 x13 = spec_l12Xor.l0 k x5 x11 x12 x13) ∧ (∀ x5 x7 x11 x12 x13 x18 x19, impl_parity.l1 k x5 x7 x11 x12 x13 x18 x19 = spec_l12Xor.l1 k x5 x7 x11 x12 x13 x18 x19) := by
  intro k
  induction k with
  | zero =>
    constructor
    · intros; rw [impl_parity.l0, spec_l12Xor.l0]
    · intros; rw [impl_parity.l1, spec_l12Xor.l1]
  | succ k ih =>
    constructor
    · intros; rw [impl_parity.l0, spec_l12Xor.l0, ih.2]
    · intros; rw [impl_parity.l1, spec_l12Xor.l1, ih.1, ih.2]
theorem par_same (k : Nat) (l : List ByteArray) (n : Int) : impl_parity.f k l n = spec_l12Xor.f k l n := by
  unfold impl_parity.f spec_l12Xor.f
  rw [(xor_same k).1]
theorem xor_l1 (l : List ByteArray) (n i K : Nat) (hn : n ≤ 1000) (x : ByteArray) (hx : x.size = n) (hi : i < 1000)
    (H : ∀ k (y : List Int), y.length = n → K < k → ∃ t, spec_l12Xor.l0 k y l (l.length : Int) ((i + 1 : Nat) : Int) = some t) :
    ∀ (d k j : Nat) (y : List Int), j + d = n → K + d + 1 < k → y.length = n → ∃ t, spec_l12Xor.l1 k y x l (l.length : Int) (i : Int) (n : Int) (j : Int) = some t := by
  intro d
  have e : ((i + 1 : Nat) : Int) = (i : Int) + 1 := by omega
  induction d with
  | zero =>
    intro k j y hj hk hy
    obtain ⟨k, rfl⟩ := round (d := 0) (k := k) (by omega)
    rw [spec_l12Xor.l1, if_neg (by omega), wrap_id (by omega) (by omega), ← e]
    exact H k y hy (by omega)
  | succ d ih =>
    intro k j y hj hk hy
    obtain ⟨k, rfl⟩ := round (d := 0) (k := k) (by omega)
    have e2 : ((j + 1 : Nat) : Int) = (j : Int) + 1 := by omega
    rw [spec_l12Xor.l1, if_pos (by omega), if_pos (by omega), if_pos (by omega), if_pos (by omega), wrap_id (x := (j : Int) + 1) (by omega) (by omega), ← e2]
    exact ih k (j + 1) _ (by omega) (by omega) (by simpa using hy)
theorem xor_l0 (l : List ByteArray) (n : Nat) (hn : n ≤ 1000) (hl : l.length ≤ 1000) (hs : ∀ x, x ∈ l → x.size = n) :
    ∀ (d k i : Nat) (y : List Int), i + d = l.length → d * (n + 3) < k → y.length = n → ∃ t, spec_l12Xor.l0 k y l (l.length : Int) (i : Int) = some t := by
  intro d
  induction d with
  | zero =>
    intro k i y hi hk hy
    obtain ⟨k, rfl⟩ := round (d := 0) (k := k) (by omega)
    rw [spec_l12Xor.l0, if_neg (by omega)]
    exact ⟨_, rfl⟩
  | succ d ih =>
    intro k i y hi hk hy
    have hmul : (d + 1) * (n + 3) = d * (n + 3) + (n + 3) := by rw [Nat.succ_mul]
    obtain ⟨k, rfl⟩ := round (d := 0) (k := k) (by omega)
    rw [spec_l12Xor.l0, if_pos (by omega), if_pos (by omega), if_pos (by omega), hy]
    have hx : (rdOf ByteArray.empty l (i : Int)).size = n := by
      rw [rdS_nat l i (by omega)]
      exact hs _ (List.getElem_mem _)
    have := xor_l1 l n i (d * (n + 3)) hn _ hx (by omega) (fun k y hy hk => ih k (i + 1) y (by omega) hk hy) n k 0 y (by omega) (by omega) hy
    exact this
theorem xor_some (l : List ByteArray) (n : Nat) (hn : n ≤ 1000) (hl : l.length ≤ 1000) (hs : ∀ x, x ∈ l → x.size = n) (k : Nat) (hk : l.length * (n + 3) < k) : ∃ t, spec_l12Xor.f k l (n : Int) = some t := by
  unfold spec_l12Xor.f
  rw [if_pos (by omega), if_pos (by omega), Int.toNat_natCast]
  exact xor_l0 l n hn hl hs l.length k 0 _ (by omega) hk (by simp)
def areP (l : List ByteArray) : Bool := inR 1 8 (l.length : Int) && (decide ((rdOf ByteArray.empty l 0).size ≤ 16) && !l.any (badP l))
theorem areP_facts (l : List ByteArray) (h : areP l = true) : 1 ≤ l.length ∧ l.length ≤ 8 ∧ (rdOf ByteArray.empty l 0).size ≤ 16 ∧ ∀ x, x ∈ l → x.size = (rdOf ByteArray.empty l 0).size := by
  unfold areP inR at h
  simp only [Bool.and_eq_true, decide_eq_true_eq, Bool.not_eq_true', List.any_eq_false] at h
  obtain ⟨h1, h2, h3⟩ := h
  refine ⟨by omega, by omega, h2, fun x hx => ?_⟩
  have := h3 x hx
  unfold badP at this
  simpa using this
theorem pieces_l0 (l : List ByteArray) (hn : l.length ≤ 1048576) (b : Bool) (hb : b = inR 1 8 (l.length : Int)) : ∀ (d k i : Nat), i + d = l.length → d < k → spec_l12Pieces.l0 k l l (l.length : Int) (i : Int) = some (b && !(l.drop i).any (fun x => badP l x || decide (16 < x.size))) := by
  intro d
  induction d with
  | zero =>
    intro k i h hk
    obtain ⟨k, rfl⟩ := round hk
    rw [spec_l12Pieces.l0, if_neg (by omega), spec_in, Option.bind_some, List.drop_of_length_le (by omega), hb]
    simp [inR]
  | succ d ih =>
    intro k i h hk
    obtain ⟨k, rfl⟩ := round hk
    have e : ((i + 1 : Nat) : Int) = (i : Int) + 1 := by omega
    rw [spec_l12Pieces.l0, if_pos (by omega), if_pos (by omega), if_pos (by omega), if_pos (by omega), drop_rdS l i (by omega), List.any_cons]
    by_cases h1 : ((rdOf ByteArray.empty l (i : Int)).size : Int) = ((rdOf ByteArray.empty l 0).size : Int)
    · rw [if_pos h1]
      by_cases h2 : ((rdOf ByteArray.empty l (i : Int)).size : Int) > 16
      · rw [if_pos h2]
        have : decide (16 < (rdOf ByteArray.empty l (i : Int)).size) = true := by simp; omega
        rw [this]
        simp
      · rw [if_neg h2, wrap_id (x := (i : Int) + 1) (by omega) (by omega), ← e, ih k (i + 1) (by omega) (by omega)]
        have a1 : decide (16 < (rdOf ByteArray.empty l (i : Int)).size) = false := by simp; omega
        have a2 : badP l (rdOf ByteArray.empty l (i : Int)) = false := by
          unfold badP
          simp only [bne_eq_false_iff_eq]
          omega
        rw [a1, a2]
        simp
    · rw [if_neg h1]
      have a2 : badP l (rdOf ByteArray.empty l (i : Int)) = true := by
        unfold badP
        simp only [bne_iff_ne, ne_eq]
        omega
      rw [a2]
      simp
theorem spec_pieces (l : List ByteArray) (hn : l.length ≤ 1048576) (k : Nat) (hk : l.length < k) : spec_l12Pieces.f k l = some (areP l) := by
  unfold spec_l12Pieces.f
  have := pieces_l0 l hn _ rfl l.length k 0 (by omega) hk
  rw [show ((0 : Nat) : Int) = 0 from rfl, List.drop_zero] at this
  rw [this]
  congr 1
  unfold areP
  by_cases h0 : l.length = 0
  · have : inR 1 8 (l.length : Int) = false := by unfold inR; simp; omega
    rw [this]
    simp
  · congr 1
    by_cases hb : l.any (badP l) = true
    · have : l.any (fun x => badP l x || decide (16 < x.size)) = true := by
        rw [List.any_eq_true] at hb ⊢
        obtain ⟨x, hx, h⟩ := hb
        exact ⟨x, hx, by rw [h]; rfl⟩
      rw [this, hb]
      simp
    · have hb' : l.any (badP l) = false := by simpa using hb
      have hall : ∀ x, x ∈ l → x.size = (rdOf ByteArray.empty l 0).size := by
        intro x hx
        have := (List.any_eq_false.1 hb') x hx
        unfold badP at this
        simpa using this
      rw [hb']
      by_cases h16 : (rdOf ByteArray.empty l 0).size ≤ 16
      · have : l.any (fun x => badP l x || decide (16 < x.size)) = false := by
          rw [List.any_eq_false]
          intro x hx
          have h1 := (List.any_eq_false.1 hb') x hx
          have h2 := hall x hx
          simp only [Bool.or_eq_true, decide_eq_true_eq, not_or]
          exact ⟨h1, by omega⟩
        rw [this]
        simp [h16]
      · have hm : l[0]'(by omega) ∈ l := List.getElem_mem _
        have hr : rdOf ByteArray.empty l 0 = l[0]'(by omega) := rdS_nat l 0 (by omega)
        have : l.any (fun x => badP l x || decide (16 < x.size)) = true := by
          rw [List.any_eq_true]
          refine ⟨_, hm, ?_⟩
          rw [← hr]
          have : decide (16 < (rdOf ByteArray.empty l 0).size) = true := by simp; omega
          rw [this]
          simp
        rw [this]
        simp [h16]
theorem impl_pieces (l : List ByteArray) : impl_arePieces.f l = some (areP l) := rfl

end Go.Proofs.YtanbjngipeblmaaDoor.Pure
