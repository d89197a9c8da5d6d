-- Made by pw.py (wip/tools) with the kit's print. Not trusted: Lean checks it.
import Derived.Test.YtfbiekobmgclhaaP0
import Derived.Test.YtfbiekobmgclhaaAInR
import Derived.Test.YtfbiekobmgclhaaAPredInt
import Derived.Test.YtfbiekobmgclhaaPf34
namespace Go.Proofs.Ytfbiekobmgclhaa.P
open Go.RowKit Go.Proofs.YtfbiekobmgclhaaW.PrintWords Go.Proofs.YtfbiekobmgclhaaW.PrintLast Go.Proofs.YtfbiekobmgclhaaW.PrintMore
attribute [local go_sem] max2_int min2_int max_two min_two max_three min_three max_four min_four
set_option linter.unusedVariables false
set_option linter.unusedSimpArgs false

/-! ### impl_areQuanta: function 25 (by hand) -/
theorem quanta_pred (w : World) : PredI 42 #[] (fun x => !inR 20 100 x) w := by
  intro W x _
  have H := Aside0.mk (in_inR 20 100 x)
  show Calls Try.prog 42 #[.int .i64 x] W fun e w' => e = .returned (.bool (!inR 20 100 x)) ∧ Drawn0 W w'
  generalize inR 20 100 x = b at H ⊢
  go_enter Try.func42, Try.ntmps42
  go_wp2_with (go_at_call 34; (with_reducible refine (impl_in.calls x 20 100 b _ H.out).mono ?_); rintro e w' ⟨rfl, ⟨nd, rfl⟩⟩)
  go_ret
  exact ⟨rfl, by repeat (first | exact Drawn0.refl _ | apply Drawn0.step)⟩
def impl_areQuanta.f (l0 : List Int) : Option (Bool) := some (inR 1 4 (l0.length : Int) && !l0.any (fun x => !inR 20 100 x))
set_option maxHeartbeats 2000000 in
theorem impl_areQuanta.calls (A0 : Option Addr) (c0 : Nat) (l0 : List Int) (r : Bool) (w : World) (hr0 : Kd.C (Kd.int .i64) w A0 l0.length l0) (hc0 : l0.length ≤ c0) (h : impl_areQuanta.f l0 = some r) :
    Calls Try.prog 25 #[.slice A0 l0.length c0] w fun e w' => e = .returned (.bool r) ∧ Drawn0 w w' := by
  have HR := Aside0.mk hr0
  have HC := Aside0.mk hc0
  clear hr0 hc0
  obtain rfl := Option.some.inj h
  clear h
  have H1 := Aside0.mk (in_inR 1 4 (l0.length : Int))
  have H2 : ∀ q, _ := fun q => containsFuncI 42 #[] (fun x => !inR 20 100 x) (Go.Proofs.enters_of Try.func42 (by kernel_rfl) rfl) A0 c0 l0 (w.drewN q) (quanta_pred _) (Kd.C_below HR.out (pw_below_drewN (Below.refl _ w) q)) HC.out
  generalize inR 1 4 (l0.length : Int) = b1 at H1 ⊢
  generalize l0.any (fun x => !inR 20 100 x) = b2 at H2 ⊢
  have H2' := Aside0.mk H2
  clear H2
  cases b1 with
  | true =>
    go_enter Try.func25, Try.ntmps25
    go_wp2_with (first | (go_at_call 34; (with_reducible refine (impl_in.calls _ 1 4 _ _ H1.out).mono ?_); rintro e w' ⟨rfl, ⟨nd, rfl⟩⟩) | (go_at_call 35; refine (H2'.out _).mono ?_; rintro e w' ⟨rfl, ⟨nd2, rfl⟩⟩))
    go_ret
    exact ⟨by simp, by repeat (first | exact Drawn0.refl _ | exact ⟨_, rfl⟩ | apply Drawn0.step)⟩
  | false =>
    go_enter Try.func25, Try.ntmps25
    go_wp2_with (go_at_call 34; (with_reducible refine (impl_in.calls _ 1 4 _ _ H1.out).mono ?_); rintro e w' ⟨rfl, ⟨nd, rfl⟩⟩)
    go_ret
    exact ⟨by simp, by repeat (first | exact Drawn0.refl _ | exact ⟨_, rfl⟩ | apply Drawn0.step)⟩


end Go.Proofs.Ytfbiekobmgclhaa.P
