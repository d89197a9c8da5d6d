-- Made by pw.py (wip/tools) with the kit's print. Not trusted: Lean checks it.
import Derived.Test.YtanbjngipeblmaaP0
import Derived.Test.YtanbjngipeblmaaAByRow
import Derived.Test.YtanbjngipeblmaaPf38
namespace Go.Proofs.Ytanbjngipeblmaa.P
open Go.RowKit Go.Proofs.YtanbjngipeblmaaW.PrintWords Go.Proofs.YtanbjngipeblmaaW.PrintLast Go.Proofs.YtanbjngipeblmaaW.PrintMore
attribute [local go_sem] max2_int min2_int max_two min_two max_three min_three max_four min_four
set_option linter.unusedVariables false
set_option linter.unusedSimpArgs false

/-! ### spec_BurstOf: function 12 (by hand) -/
theorem l1In_yes (a b c : Int) (h : spec_l1In.f a b c = some true) : b ≤ a ∧ a ≤ c := by
  unfold spec_l1In.f at h
  by_cases h1 : a ≥ b
  · by_cases h2 : a ≤ c
    · exact ⟨h1, h2⟩
    · simp [h1, h2] at h
  · simp [h1] at h
def spec_BurstOf.f (a0 : ByteArray) (a1 : Int) (a2 : Int) : Option (ByteArray × Bool) := if (a0.size : Int) > 120 then some ((⟨#[]⟩ : ByteArray), false) else (spec_l1In.f a1 0 (a0.size : Int)).bind fun t => if t = true then ((spec_l1In.f a2 0 (wrap64 ((a0.size : Int) - a1))).bind fun u => if u = true then some (strOfNums (burst (bytesOf a0) a1.toNat a2.toNat), true) else some ((⟨#[]⟩ : ByteArray), false)) else some ((⟨#[]⟩ : ByteArray), false)
set_option maxHeartbeats 8000000 in
theorem spec_BurstOf.calls (a0 : ByteArray) (a1 : Int) (a2 : Int) (r1 : ByteArray) (r2 : Bool) (w : World) (h : spec_BurstOf.f a0 a1 a2 = some (r1, r2)) :
    Calls Try.prog 12 #[.string a0, .int .i64 a1, .int .i64 a2] w fun e w' => e = .returned (.tuple #[.string r1, .bool r2]) ∧ Below w.heap.size w w' := by
  unfold spec_BurstOf.f at h
  by_cases h120 : (a0.size : Int) > 120
  · rw [if_pos h120] at h
    simp only [Option.some.injEq, Prod.mk.injEq] at h
    obtain ⟨rfl, rfl⟩ := h
    have c1 : decide ((a0.size : Int) > 120) = true := decide_eq_true h120
    have c2 : decide ((120 : Int) < (a0.size : Int)) = true := decide_eq_true h120
    clear h120
    go_enter Try.func12, Try.ntmps12
    go_wp2
    go_ret2
    exact ⟨rfl, Below.refl _ _⟩
  rw [if_neg h120] at h
  have c1 : decide ((a0.size : Int) > 120) = false := decide_eq_false h120
  have c2 : decide ((120 : Int) < (a0.size : Int)) = false := decide_eq_false h120
  have H120 := Aside0.mk h120
  clear h120
  obtain ⟨t, ht, h⟩ := Option.bind_eq_some_iff.mp h
  have HA := Aside0.mk (fun W => spec_l1In.calls a1 0 (a0.size : Int) t W ht)
  cases t with
  | false =>
    rw [if_neg (by simp)] at h
    simp only [Option.some.injEq, Prod.mk.injEq] at h
    obtain ⟨rfl, rfl⟩ := h
    clear ht H120
    go_enter Try.func12, Try.ntmps12
    go_wp2_with (go_at_call 38; refine (HA.out _).mono ?_; rintro e w' ⟨rfl, ⟨nd, rfl⟩⟩)
    go_ret2
    exact ⟨rfl, by repeat (first | exact Below.refl _ _ | apply pw_below_drewN)⟩
  | true =>
    rw [if_pos rfl] at h
    obtain ⟨u, hu, h⟩ := Option.bind_eq_some_iff.mp h
    have HU := Aside0.mk (fun W => spec_l1In.calls a2 0 (wrap64 ((a0.size : Int) - a1)) u W hu)
    cases u with
    | false =>
      rw [if_neg (by simp)] at h
      simp only [Option.some.injEq, Prod.mk.injEq] at h
      obtain ⟨rfl, rfl⟩ := h
      clear ht hu H120
      go_enter Try.func12, Try.ntmps12
      go_wp2_with (first | (go_at_call 38; (with_reducible refine (HA.out _).mono ?_); rintro e w' ⟨rfl, ⟨nd, rfl⟩⟩) | (go_at_call 38; (with_reducible refine (HU.out _).mono ?_); rintro e w' ⟨rfl, ⟨nd, rfl⟩⟩))
      go_ret2
      exact ⟨rfl, by repeat (first | exact Below.refl _ _ | apply pw_below_drewN)⟩
    | true =>
      rw [if_pos rfl] at h
      simp only [Option.some.injEq, Prod.mk.injEq] at h
      obtain ⟨rfl, rfl⟩ := h
      obtain ⟨b2, b3⟩ := l1In_yes _ _ _ ht
      obtain ⟨b4, b5⟩ := l1In_yes _ _ _ hu
      have h6 := H120.out
      have hw : wrap64 ((a0.size : Int) - a1) = (a0.size : Int) - a1 := by unfold wrap64; omega
      have HU2 := Aside0.mk HU.out
      rw [hw] at b5 HU2
      clear hw
      obtain ⟨f, rfl⟩ := Int.eq_ofNat_of_zero_le b2
      obtain ⟨l, rfl⟩ := Int.eq_ofNat_of_zero_le b4
      rw [Int.toNat_natCast, Int.toNat_natCast]
      have kb := fun W => print_bytes (P := Try.prog) 9 45 5 Try.underlying9 Try.underlying45 Try.underlying5 a0 W
      have hfl : f + l ≤ a0.size := by omega
      have h120' : (a0.size : Int) ≤ 120 := by omega
      clear ht hu b2 b3 b4 b5 h6 H120
      go_enter Try.func12, Try.ntmps12
      go_wp2_with (first | (go_at_call 38; (with_reducible refine (HA.out _).mono ?_); rintro e w' ⟨rfl, ⟨nd, rfl⟩⟩) | (go_at_call 38; refine (HU2.out _).mono ?_; rintro e w' ⟨rfl, ⟨nd2, rfl⟩⟩))
      have HN := Aside0.mk (ByRow.new ((w.drewN nd).drewN nd2) 5 a0)
      have HB0 := Aside0.mk (bytes_below (pw_below_drewN (pw_below_drewN (Below.refl w.heap.size w) nd) nd2) (Nat.le_refl _) 5 a0)
      go_loopg [9] l (fun gg s wr => ∃ kk : Nat, kk ≤ l ∧ l - kk ≤ gg ∧ s = .int .i64 ((f : Int) + (kk : Int)) ∧ Aside0 (ByRow wr w.heap.size a0.size (burst (bytesOf a0) f kk)) ∧ Aside0 (Below w.heap.size w wr))
      case atStart => exact ⟨0, by omega, by omega, by simp, ⟨by have := HN.out; simpa [burst] using this⟩, ⟨by simpa using HB0.out⟩⟩
      case round =>
        obtain ⟨kk, hkk, hg, rfl, HR, HB⟩ := hrel
        clear HN HB0
        by_cases hlt : kk < l
        · obtain ⟨q, hq⟩ : ∃ q : Int, q = rd (burst (bytesOf a0) f kk) ((f + kk : Nat) : Int) := ⟨_, rfl⟩
          obtain ⟨hx, hf⟩ := HR.out.cell (f + kk) (by omega)
          rw [show (burst (bytesOf a0) f kk).getD (f + kk) 0 = q by rw [hq]; unfold rd; rw [Int.toNat_natCast]] at hx
          have hp := Aside0.mk (HR.out.set (f + kk) (by omega) (Go.bits .xor .u8 q 255))
          have HQ := Aside0.mk hq
          clear hq
          have d1 : decide ((f : Int) + (kk : Int) < (f : Int) + (l : Int)) = true := by simp; omega
          have p1 : 0 ≤ (f : Int) + (kk : Int) := by omega
          have q1 : (f : Int) + (kk : Int) < (a0.size : Int) := by omega
          go_wp2
          go_roundg (l - (kk + 1))
          case measure => omega
          case rel =>
            refine ⟨kk + 1, by omega, by omega, by first | go_num | (congr 1; push_cast; omega), ⟨?_⟩, ⟨?_⟩⟩
            · have := hp.out
              rw [burst, ← HQ.out]
              exact this
            · exact below_set HB.out (Nat.le_refl _)
        · have hk : kk = l := by omega
          subst hk
          have d1 : decide ((f : Int) + (kk : Int) < (f : Int) + (kk : Int)) = false := by simp
          have hcv := fun cap_ => run_convert_bytes_arg (P := Try.prog) wr 45 5 Try.underlying45 Try.underlying5 w.heap.size 0 a0.size cap_ (burst (bytesOf a0) f kk) HR.out.len (fun i hi => by rw [Nat.zero_add]; exact (HR.out.cell i hi).1) 9 Try.underlying9
          go_wp2
          go_ret2
          exact ⟨rfl, HB.out⟩


end Go.Proofs.Ytanbjngipeblmaa.P
