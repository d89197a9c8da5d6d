-- Made by pw.py (wip/tools) with the kit's print. Not trusted: Lean checks it.
import Derived.Test.YtanbjngipeblmaaP0
import Derived.Test.YtanbjngipeblmaaAAcross
import Derived.Test.YtanbjngipeblmaaAInR
import Derived.Test.YtanbjngipeblmaaALeave
import Derived.Test.YtanbjngipeblmaaPf41
namespace Go.Proofs.Ytanbjngipeblmaa.P
open Go.RowKit Go.Proofs.YtanbjngipeblmaaW.PrintWords Go.Proofs.YtanbjngipeblmaaW.PrintLast Go.Proofs.YtanbjngipeblmaaW.PrintMore
attribute [local go_sem] max2_int min2_int max_two min_two max_three min_three max_four min_four
set_option linter.unusedVariables false
set_option linter.unusedSimpArgs false

/-! ### impl_Interleave: function 15 (by hand) -/
def impl_Interleave.f (k : Nat) (a0 : ByteArray) (a1 : Int) : Option (ByteArray × Bool) := (impl_isSpread.f (a0.size : Int) a1).bind fun t => if t = true then (impl_across.f (ilF (a0.size : Int) a1) k a0).bind fun y => some (y, true) else some ((⟨#[]⟩ : ByteArray), false)
theorem impl_Interleave.mono : ∀ a0 a1 k, LeO (impl_Interleave.f k a0 a1) (impl_Interleave.f (k + 1) a0 a1) := by
  intro a0 a1 k
  unfold impl_Interleave.f
  repeat' first
      | (with_reducible exact impl_across.mono _ _ _)
      | (with_reducible exact LeO.refl _)
      | (with_reducible refine LeO.ite ?_ ?_)
      | (with_reducible refine LeO.bind ?_ (fun _ => ?_))
set_option maxHeartbeats 8000000 in
theorem impl_Interleave.calls (k : Nat) (a0 : ByteArray) (a1 : Int) (r1 : ByteArray) (r2 : Bool) (w : World) (h : impl_Interleave.f k a0 a1 = some (r1, r2)) :
    Calls Try.prog 15 #[.string a0, .int .i64 a1] w fun e w' => e = .returned (.tuple #[.string r1, .bool r2]) ∧ Below w.heap.size w w' := by
  unfold impl_Interleave.f at h
  obtain ⟨t, ht, h⟩ := Option.bind_eq_some_iff.mp h
  have HA := Aside0.mk (fun W => impl_isSpread.calls (a0.size : Int) a1 t W ht)
  cases t with
  | false =>
    rw [if_neg (by simp)] at h
    simp only [Option.some.injEq, Prod.mk.injEq] at h
    obtain ⟨rfl, rfl⟩ := h
    clear ht
    go_enter Try.func15, Try.ntmps15
    go_wp2_with (go_at_call 41; refine (HA.out _).mono ?_; rintro e w' ⟨rfl, ⟨nd, rfl⟩⟩)
    go_ret2
    exact ⟨rfl, by repeat (first | exact Below.refl _ _ | apply below_alloc | apply pw_below_drewN)⟩
  | true =>
    rw [if_pos rfl] at h
    obtain ⟨y, hy, h⟩ := Option.bind_eq_some_iff.mp h
    simp only [Option.some.injEq, Prod.mk.injEq] at h
    obtain ⟨rfl, rfl⟩ := h
    obtain ⟨b1, b2, b3, b4⟩ := isSpread_yes _ _ ht (by omega)
    have HQ : ∀ (Bd Bs : Nat) (W : World), Bd < W.heap.size → Bs < W.heap.size → W.cell? ⟨Bd, 0, none⟩ = some (Value.int .i64 a1) → W.cell? ⟨Bs, 0, none⟩ = some (Value.string a0) → _ := fun Bd Bs W h1 h2 h3 h4 => impl_across.calls (ilF (a0.size : Int) a1) 43 #[.pointer (some ⟨Bd, 0, none⟩), .pointer (some ⟨Bs, 0, none⟩)] (Go.Proofs.enters_of Try.func43 (by kernel_rfl) rfl) k a0 y W (il_gives Bd Bs a0 a1 W b2 b3 b1 h1 h2 h3 h4) hy
    have HQ' := Aside0.mk HQ
    clear HQ hy ht b1 b2 b3 b4
    go_enter Try.func15, Try.ntmps15
    go_wp2_with (first | (go_at_call 41; refine (HA.out _).mono ?_; rintro e w' ⟨rfl, ⟨nd, rfl⟩⟩) | (go_at_call 42; refine below_calls w (HQ'.out _ _ _ (by simp) (by simp; omega) (by go_simp) (by go_simp)) (by repeat (first | exact Below.refl _ _ | apply below_alloc | apply pw_below_drewN)) ?_; rintro e w' ⟨⟨rfl, hd⟩, hb⟩; have HB := Aside0.mk (hb hd); clear hb hd))
    go_ret2
    exact ⟨rfl, HB.out⟩


end Go.Proofs.Ytanbjngipeblmaa.P
