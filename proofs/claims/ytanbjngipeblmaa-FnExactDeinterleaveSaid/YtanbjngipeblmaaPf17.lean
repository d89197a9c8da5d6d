-- Made by pw.py (wip/tools) with the kit's print. Not trusted: Lean checks it.
import Derived.Test.YtanbjngipeblmaaP0
import Derived.Test.YtanbjngipeblmaaAAcross
import Derived.Test.YtanbjngipeblmaaAInR
import Derived.Test.YtanbjngipeblmaaALeave
import Derived.Test.YtanbjngipeblmaaPf41
namespace Go.Proofs.Ytanbjngipeblmaa.P
open Go.RowKit Go.Proofs.YtanbjngipeblmaaW.PrintWords Go.Proofs.YtanbjngipeblmaaW.PrintLast Go.Proofs.YtanbjngipeblmaaW.PrintMore
attribute [local go_sem] max2_int min2_int max_two min_two max_three min_three max_four min_four
set_option linter.unusedVariables false
set_option linter.unusedSimpArgs false

/-! ### impl_Deinterleave: function 17 (by hand) -/
def impl_Deinterleave.f (k : Nat) (a0 : ByteArray) (a1 : Int) : Option (ByteArray × Bool) := (impl_isSpread.f (a0.size : Int) a1).bind fun t => if t = true then (impl_across.f (dlF ((a0.size : Int) / a1) a1) k a0).bind fun y => some (y, true) else some ((⟨#[]⟩ : ByteArray), false)
theorem impl_Deinterleave.mono : ∀ a0 a1 k, LeO (impl_Deinterleave.f k a0 a1) (impl_Deinterleave.f (k + 1) a0 a1) := by
  intro a0 a1 k
  unfold impl_Deinterleave.f
  repeat' first
      | (with_reducible exact impl_across.mono _ _ _)
      | (with_reducible exact LeO.refl _)
      | (with_reducible refine LeO.ite ?_ ?_)
      | (with_reducible refine LeO.bind ?_ (fun _ => ?_))
set_option maxHeartbeats 8000000 in
theorem impl_Deinterleave.calls (k : Nat) (a0 : ByteArray) (a1 : Int) (r1 : ByteArray) (r2 : Bool) (w : World) (h : impl_Deinterleave.f k a0 a1 = some (r1, r2)) :
    Calls Try.prog 17 #[.string a0, .int .i64 a1] w fun e w' => e = .returned (.tuple #[.string r1, .bool r2]) ∧ Below w.heap.size w w' := by
  unfold impl_Deinterleave.f at h
  obtain ⟨t, ht, h⟩ := Option.bind_eq_some_iff.mp h
  have HA := Aside0.mk (fun W => impl_isSpread.calls (a0.size : Int) a1 t W ht)
  cases t with
  | false =>
    rw [if_neg (by simp)] at h
    simp only [Option.some.injEq, Prod.mk.injEq] at h
    obtain ⟨rfl, rfl⟩ := h
    clear ht
    go_enter Try.func17, Try.ntmps17
    go_wp2_with (go_at_call 41; refine (HA.out _).mono ?_; rintro e w' ⟨rfl, ⟨nd, rfl⟩⟩)
    go_ret2
    exact ⟨rfl, by repeat (first | exact Below.refl _ _ | apply below_alloc | apply pw_below_drewN)⟩
  | true =>
    rw [if_pos rfl] at h
    obtain ⟨y, hy, h⟩ := Option.bind_eq_some_iff.mp h
    simp only [Option.some.injEq, Prod.mk.injEq] at h
    obtain ⟨rfl, rfl⟩ := h
    obtain ⟨b1, b2, b3, b4⟩ := isSpread_yes _ _ ht (by omega)
    have q1 : (a0.size : Int) / a1 * a1 ≤ 120 := Int.le_trans (Int.ediv_mul_le _ (by omega)) b1
    have q0 : 0 ≤ (a0.size : Int) / a1 := Int.ediv_nonneg (by omega) (by omega)
    have q2 : (a0.size : Int) / a1 ≤ 120 := Int.le_trans (Int.ediv_le_self _ (by omega)) b1
    have HQ : ∀ (Bl Bd : Nat) (W : World), Bl < W.heap.size → Bd < W.heap.size → W.cell? ⟨Bl, 0, none⟩ = some (Value.int .i64 ((a0.size : Int) / a1)) → W.cell? ⟨Bd, 0, none⟩ = some (Value.int .i64 a1) → _ := fun Bl Bd W h1 h2 h3 h4 => impl_across.calls (dlF ((a0.size : Int) / a1) a1) 44 #[.pointer (some ⟨Bl, 0, none⟩), .pointer (some ⟨Bd, 0, none⟩)] (Go.Proofs.enters_of Try.func44 (by kernel_rfl) rfl) k a0 y W (dl_gives Bl Bd ((a0.size : Int) / a1) a1 W b2 b3 q0 q2 q1 h1 h2 h3 h4) hy
    have HQ' := Aside0.mk HQ
    have HW := Aside0.mk (w64_id (x := (a0.size : Int) / a1) (by omega) (by omega))
    have hz : ¬ a1 = 0 := by omega
    have hz2 : (a1 == 0) = false := by simpa using hz
    clear HQ hy ht b4 q1 q0 q2
    go_enter Try.func17, Try.ntmps17
    go_wp2_with (first | (go_at_call 41; refine (HA.out _).mono ?_; rintro e w' ⟨rfl, ⟨nd, rfl⟩⟩) | (go_at_call 42; refine below_calls w (HQ'.out _ _ _ (by simp) (by simp; omega) (by go_simp; exact HW.out) (by go_simp)) (by repeat (first | exact Below.refl _ _ | apply below_alloc | apply pw_below_drewN | (refine below_set ?_ (by simp)))) ?_; rintro e w' ⟨⟨rfl, hd⟩, hb⟩; have HB := Aside0.mk (hb hd); clear hb hd))
    go_ret2
    exact ⟨rfl, HB.out⟩


end Go.Proofs.Ytanbjngipeblmaa.P
