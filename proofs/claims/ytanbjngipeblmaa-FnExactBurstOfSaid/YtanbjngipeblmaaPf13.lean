-- Made by pw.py (wip/tools) with the kit's print. Not trusted: Lean checks it.
import Derived.Test.YtanbjngipeblmaaP0
import Derived.Test.YtanbjngipeblmaaAByRow
import Derived.Test.YtanbjngipeblmaaPf39
import Derived.Test.YtanbjngipeblmaaPf49
namespace Go.Proofs.Ytanbjngipeblmaa.P
open Go.RowKit Go.Proofs.YtanbjngipeblmaaW.PrintWords Go.Proofs.YtanbjngipeblmaaW.PrintLast Go.Proofs.YtanbjngipeblmaaW.PrintMore
attribute [local go_sem] max2_int min2_int max_two min_two max_three min_three max_four min_four
set_option linter.unusedVariables false
set_option linter.unusedSimpArgs false

/-! ### impl_BurstOf: function 13 (by hand) -/
theorem isBurst_yes (n f l : Int) (h : impl_isBurst.f n f l = some true) (hn : 0 ≤ n) : n ≤ 120 ∧ 0 ≤ f ∧ f ≤ n ∧ 0 ≤ l ∧ l ≤ n - f := by
  unfold impl_isBurst.f impl_in.f at h
  by_cases h1 : n ≤ 120
  · by_cases h2 : 0 ≤ f
    · by_cases h3 : f ≤ n
      · by_cases h4 : 0 ≤ l
        · have hw : wrap64 (n - f) = n - f := by unfold wrap64; omega
          by_cases h5 : l ≤ n - f
          · exact ⟨h1, h2, h3, h4, h5⟩
          · simp [hn, h1, h2, h3, h4, hw, h5] at h
        · simp [hn, h1, h2, h3, h4] at h
      · simp [hn, h1, h2, h3] at h
    · simp [hn, h1, h2] at h
  · simp [hn, h1] at h
def impl_BurstOf.f (a0 : ByteArray) (a1 : Int) (a2 : Int) : Option (ByteArray × Bool) := (impl_isBurst.f (a0.size : Int) a1 a2).bind fun t => if t = true then some (strOfNums (burst (bytesOf a0) a1.toNat a2.toNat), true) else some ((⟨#[]⟩ : ByteArray), false)
set_option maxHeartbeats 8000000 in
theorem impl_BurstOf.calls (a0 : ByteArray) (a1 : Int) (a2 : Int) (r1 : ByteArray) (r2 : Bool) (w : World) (h : impl_BurstOf.f a0 a1 a2 = some (r1, r2)) :
    Calls Try.prog 13 #[.string a0, .int .i64 a1, .int .i64 a2] w fun e w' => e = .returned (.tuple #[.string r1, .bool r2]) ∧ Below w.heap.size w w' := by
  unfold impl_BurstOf.f at h
  obtain ⟨t, ht, h⟩ := Option.bind_eq_some_iff.mp h
  have HA := Aside0.mk (fun W => impl_isBurst.calls (a0.size : Int) a1 a2 t W ht)
  cases t with
  | false =>
    rw [if_neg (by simp)] at h
    simp only [Option.some.injEq, Prod.mk.injEq] at h
    obtain ⟨rfl, rfl⟩ := h
    clear ht
    go_enter Try.func13, Try.ntmps13
    go_wp2_with (go_at_call 39; refine (HA.out _).mono ?_; rintro e w' ⟨rfl, ⟨nd, rfl⟩⟩)
    go_ret2
    exact ⟨rfl, by repeat (first | exact Below.refl _ _ | apply pw_below_drewN)⟩
  | true =>
    rw [if_pos rfl] at h
    simp only [Option.some.injEq, Prod.mk.injEq] at h
    obtain ⟨rfl, rfl⟩ := h
    obtain ⟨b1, b2, b3, b4, b5⟩ := isBurst_yes _ _ _ ht (by omega)
    obtain ⟨f, rfl⟩ := Int.eq_ofNat_of_zero_le b2
    obtain ⟨l, rfl⟩ := Int.eq_ofNat_of_zero_le b4
    rw [Int.toNat_natCast, Int.toNat_natCast]
    have kb := fun W => print_bytes (P := Try.prog) 9 45 5 Try.underlying9 Try.underlying45 Try.underlying5 a0 W
    have hfl : f + l ≤ a0.size := by omega
    clear ht b2 b3 b4 b5
    go_enter Try.func13, Try.ntmps13
    go_wp2_with (go_at_call 39; refine (HA.out _).mono ?_; rintro e w' ⟨rfl, ⟨nd, rfl⟩⟩)
    have HN := Aside0.mk (ByRow.new (w.drewN nd) 5 a0)
    have HB0 := Aside0.mk (bytes_below (pw_below_drewN (Below.refl w.heap.size w) nd) (Nat.le_refl _) 5 a0)
    go_loopg [19] l (fun gg s wr => ∃ kk : Nat, kk ≤ l ∧ l - kk ≤ gg ∧ s = .int .i64 kk ∧ Aside0 (ByRow wr w.heap.size a0.size (burst (bytesOf a0) f kk)) ∧ Aside0 (Below w.heap.size w wr))
    case atStart => exact ⟨0, by omega, by omega, rfl, ⟨by have := HN.out; simpa [burst] using this⟩, HB0⟩
    case round =>
      obtain ⟨kk, hkk, hg, rfl, HR, HB⟩ := hrel
      clear HN HB0
      by_cases hlt : kk < l
      · obtain ⟨q, hq⟩ : ∃ q : Int, q = rd (burst (bytesOf a0) f kk) ((f + kk : Nat) : Int) := ⟨_, rfl⟩
        obtain ⟨hx, hf⟩ := HR.out.cell (f + kk) (by omega)
        rw [show (burst (bytesOf a0) f kk).getD (f + kk) 0 = q by rw [hq]; unfold rd; rw [Int.toNat_natCast]] at hx
        have hp := Aside0.mk (HR.out.set (f + kk) (by omega) (Go.bits .xor .u8 q 255))
        have HQ := Aside0.mk hq
        clear hq
        have c1 : decide ((kk : Int) < (l : Int)) = true := by simpa using hlt
        have c2 : decide (kk < l) = true := by simpa using hlt
        have p1 : 0 ≤ (f : Int) + (kk : Int) := by omega
        have q1 : (f : Int) + (kk : Int) < (a0.size : Int) := by omega
        go_wp2
        go_roundg (l - (kk + 1))
        case measure => omega
        case rel =>
          refine ⟨kk + 1, by omega, by omega, by go_num, ⟨?_⟩, ⟨?_⟩⟩
          · have := hp.out
            rw [burst, ← HQ.out]
            exact this
          · exact below_set HB.out (Nat.le_refl _)
      · have hk : kk = l := by omega
        subst hk
        have c1 : decide ((kk : Int) < (kk : Int)) = false := by simp
        have hcv := fun cap_ => run_convert_bytes_arg (P := Try.prog) wr 45 5 Try.underlying45 Try.underlying5 w.heap.size 0 a0.size cap_ (burst (bytesOf a0) f kk) HR.out.len (fun i hi => by rw [Nat.zero_add]; exact (HR.out.cell i hi).1) 9 Try.underlying9
        go_wp2
        go_ret2
        exact ⟨rfl, HB.out⟩


end Go.Proofs.Ytanbjngipeblmaa.P
