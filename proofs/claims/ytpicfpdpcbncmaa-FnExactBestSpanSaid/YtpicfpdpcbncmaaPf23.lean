-- Made by pw.py (wip/tools) with the kit's print. Not trusted: Lean checks it.
import Derived.Test.YtpicfpdpcbncmaaP0
import Derived.Test.YtpicfpdpcbncmaaAInR
import Derived.Test.YtpicfpdpcbncmaaAPredInt
import Derived.Test.YtpicfpdpcbncmaaPf31
namespace Go.Proofs.Ytpicfpdpcbncmaa.P
open Go.RowKit Go.Proofs.YtpicfpdpcbncmaaW.PrintWords Go.Proofs.YtpicfpdpcbncmaaW.PrintLast Go.Proofs.YtpicfpdpcbncmaaW.PrintMore
attribute [local go_sem] max2_int min2_int max_two min_two max_three min_three max_four min_four
set_option linter.unusedVariables false
set_option linter.unusedSimpArgs false

/-! ### impl_GoodChores: function 23 (by hand) -/
theorem chore_pred (w : World) : PredI 44 #[] (fun x => !inR 1 50 x) w := by
  intro W x _
  have H := Aside0.mk (in_inR 1 50 x)
  show Calls Try.prog 44 #[.int .i64 x] W fun e w' => e = .returned (.bool (!inR 1 50 x)) ∧ Drawn0 W w'
  generalize inR 1 50 x = b at H ⊢
  go_enter Try.func44, Try.ntmps44
  go_wp2_with (go_at_call 31; (with_reducible refine (impl_in.calls x 1 50 b _ H.out).mono ?_); rintro e w' ⟨rfl, ⟨nd, rfl⟩⟩)
  go_ret
  exact ⟨rfl, by repeat (first | exact Drawn0.refl _ | apply Drawn0.step)⟩
def impl_GoodChores.f (l0 : List Int) (a1 : Int) : Option (Bool) := some (decide ((l0.length : Int) ≤ 8) && (!l0.any (fun x => !inR 1 50 x) && inR 1 4 a1))
set_option maxHeartbeats 2000000 in
theorem impl_GoodChores.calls (A0 : Option Addr) (c0 : Nat) (l0 : List Int) (a1 : Int) (r : Bool) (w : World) (hr0 : Kd.C (Kd.int .i64) w A0 l0.length l0) (hc0 : l0.length ≤ c0) (h : impl_GoodChores.f l0 a1 = some r) :
    Calls Try.prog 23 #[.slice A0 l0.length c0, .int .i64 a1] w fun e w' => e = .returned (.bool r) ∧ Drawn0 w w' := by
  have HR := Aside0.mk hr0
  have HC := Aside0.mk hc0
  clear hr0 hc0
  obtain rfl := Option.some.inj h
  clear h
  have H3 := Aside0.mk (in_inR 1 4 a1)
  have H2 : ∀ q, _ := fun q => containsFuncI 44 #[] (fun x => !inR 1 50 x) (Go.Proofs.enters_of Try.func44 (by kernel_rfl) rfl) A0 c0 l0 (w.drewN q) (chore_pred _) (Kd.C_below HR.out (pw_below_drewN (Below.refl _ w) q)) HC.out
  generalize inR 1 4 a1 = b3 at H3 ⊢
  generalize l0.any (fun x => !inR 1 50 x) = b2 at H2 ⊢
  have H2' := Aside0.mk H2
  clear H2
  by_cases hl : l0.length ≤ 8
  · have e1 : decide ((l0.length : Int) ≤ 8) = true := decide_eq_true (by omega)
    have e2 : decide (l0.length ≤ 8) = true := decide_eq_true hl
    cases b2 with
    | true =>
      go_enter Try.func23, Try.ntmps23
      go_wp2_with (go_at_call 43; refine (H2'.out 0).mono ?_; rintro e w' ⟨rfl, ⟨nd, rfl⟩⟩)
      go_ret
      exact ⟨by rw [e1]; rfl, by repeat (first | exact Drawn0.refl _ | apply Drawn0.step)⟩
    | false =>
      go_enter Try.func23, Try.ntmps23
      go_wp2_with (first | (go_at_call 43; refine (H2'.out 0).mono ?_; rintro e w' ⟨rfl, ⟨nd, rfl⟩⟩) | (go_at_call 31; (with_reducible refine (impl_in.calls a1 1 4 b3 _ H3.out).mono ?_); rintro e w' ⟨rfl, ⟨nd, rfl⟩⟩))
      go_ret
      exact ⟨by rw [e1]; rfl, by repeat (first | exact Drawn0.refl _ | apply Drawn0.step)⟩
  · have e1 : decide ((l0.length : Int) ≤ 8) = false := decide_eq_false (by omega)
    have e2 : decide (l0.length ≤ 8) = false := decide_eq_false hl
    go_enter Try.func23, Try.ntmps23
    go_wp2
    go_ret
    exact ⟨by rw [e1]; rfl, by repeat (first | exact Drawn0.refl _ | apply Drawn0.step)⟩


end Go.Proofs.Ytpicfpdpcbncmaa.P
