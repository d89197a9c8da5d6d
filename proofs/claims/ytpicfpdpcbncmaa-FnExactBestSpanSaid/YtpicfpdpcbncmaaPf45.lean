-- Made by pw.py (wip/tools) with the kit's print. Not trusted: Lean checks it.
import Derived.Test.YtpicfpdpcbncmaaP0
namespace Go.Proofs.Ytpicfpdpcbncmaa.P
open Go.RowKit Go.Proofs.YtpicfpdpcbncmaaW.PrintWords Go.Proofs.YtpicfpdpcbncmaaW.PrintLast Go.Proofs.YtpicfpdpcbncmaaW.PrintMore
attribute [local go_sem] max2_int min2_int max_two min_two max_three min_three max_four min_four
set_option linter.unusedVariables false
set_option linter.unusedSimpArgs false

/-! ### slices_Max_int_int: function 45 (by hand) -/
def slices_Max_int_int.f (l0 : List Int) : Option (Int) := if l0.length = 0 then none else some ((l0.drop 1).foldl (fun m y => mx m y) (rd l0 0))
set_option maxHeartbeats 2000000 in
theorem slices_Max_int_int.calls (A0 : Option Addr) (c0 : Nat) (l0 : List Int) (r : Int) (w : World) (hr0 : Kd.C (Kd.int .i64) w A0 l0.length l0) (hc0 : l0.length ≤ c0) (h : slices_Max_int_int.f l0 = some r) :
    Calls Try.prog 45 #[.slice A0 l0.length c0] w fun e w' => e = .returned (.int .i64 r) ∧ Drawn0 w w' := by
  unfold slices_Max_int_int.f at h
  by_cases hl : l0.length = 0
  · rw [if_pos hl] at h
    cases h
  · rw [if_neg hl] at h
    have HE := Aside0.mk (Option.some.inj h)
    have h1 : 1 ≤ l0.length := by omega
    clear h hl
    have hn : l0.length ≤ 9223372036854775807 := hr0.2.1
    have HR := Aside0.mk hr0
    clear hr0 hc0
    obtain ⟨ad, e, hx⟩ := Kd.at_int HR.out 0 (by omega) (by omega)
    cases e
    have hx0 : w.cell? ad = some (.int .i64 (rd l0 0)) := hx
    clear hx
    have hb0 : decide (l0.length < 1) = false := decide_eq_false (by omega)
    go_enter Try.func45, Try.ntmps45
    go_wp2
    clear hb0 hx0
    go_loopg [3, 4] l0.length (fun gg s3 s4 wr => ∃ (kk : Nat) (m : Int), 1 ≤ kk ∧ kk ≤ l0.length ∧ l0.length - kk ≤ gg ∧ s4 = .int .i64 kk ∧ s3 = .int .i64 m ∧ Aside0 (Drawn0 w wr) ∧ Aside0 ((l0.drop kk).foldl (fun m y => mx m y) m = r))
    case atStart => exact ⟨1, rd l0 0, Nat.le_refl _, h1, by omega, by go_num, rfl, ⟨by repeat (first | exact Drawn0.refl _ | apply Drawn0.step)⟩, HE⟩
    case round =>
      clear HE
      obtain ⟨kk, m, h1k, hkk, hg, rfl, rfl, HD, HE⟩ := hrel
      by_cases hlt : kk < l0.length
      · have hltz : (kk : Int) < (l0.length : Int) := by omega
        obtain ⟨ad', e, hx⟩ := Kd.at_int HR.out (kk : Int) (by omega) hltz
        cases e
        rw [Int.toNat_natCast] at hx
        obtain ⟨q, rfl⟩ := HD.out
        have hd : l0.drop kk = rd l0 kk :: l0.drop (kk + 1) := by
          rw [List.drop_eq_getElem_cons hlt]
          simp [rd, List.getD_eq_getElem?_getD, List.getElem?_eq_getElem hlt]
        have HS := Aside0.mk (show (l0.drop (kk + 1)).foldl (fun m y => mx m y) (mx m (rd l0 kk)) = r by rw [← HE.out, hd]; rfl)
        clear hd HE HD
        generalize rd l0 (kk : Int) = y at hx HS
        by_cases hc : m < y
        · have hcb : decide (m < y) = true := decide_eq_true hc
          have HM := Aside0.mk (show mx m y = y by unfold mx; rw [if_pos hc])
          go_wp2
          go_roundg (l0.length - (kk + 1))
          case measure => omega
          case rel => exact ⟨kk + 1, y, by omega, by omega, by omega, by go_num, rfl, ⟨by repeat (first | exact Drawn0.refl _ | apply Drawn0.step)⟩, ⟨by have := HS.out; rwa [HM.out] at this⟩⟩
        · have hcb : decide (m < y) = false := decide_eq_false hc
          have HM := Aside0.mk (show mx m y = m by unfold mx; rw [if_neg hc])
          go_wp2
          go_roundg (l0.length - (kk + 1))
          case measure => omega
          case rel => exact ⟨kk + 1, m, by omega, by omega, by omega, by go_num, rfl, ⟨by repeat (first | exact Drawn0.refl _ | apply Drawn0.step)⟩, ⟨by have := HS.out; rwa [HM.out] at this⟩⟩
      · have hltz : ¬ (kk : Int) < (l0.length : Int) := by omega
        have hk : kk = l0.length := by omega
        have HF := Aside0.mk (show m = r by have := HE.out; rw [hk] at this; simpa using this)
        clear hk
        go_wp2
        go_ret
        exact ⟨by rw [← HF.out]; rfl, HD.out⟩


end Go.Proofs.Ytpicfpdpcbncmaa.P
