-- Made by pw.py (wip/tools) with the kit's print. Not trusted: Lean checks it.
import Derived.Test.YtfbiekobmgclhaaP0
import Derived.Test.YtfbiekobmgclhaaAInR
import Derived.Test.YtfbiekobmgclhaaAPredInt
import Derived.Test.YtfbiekobmgclhaaPf37
namespace Go.Proofs.Ytfbiekobmgclhaa.P
open Go.RowKit Go.Proofs.YtfbiekobmgclhaaW.PrintWords Go.Proofs.YtfbiekobmgclhaaW.PrintLast Go.Proofs.YtfbiekobmgclhaaW.PrintMore
attribute [local go_sem] max2_int min2_int max_two min_two max_three min_three max_four min_four
set_option linter.unusedVariables false
set_option linter.unusedSimpArgs false

/-! ### slices_ContainsFunc_int_int: function 35 (by hand) -/
-- the one use of slices.ContainsFunc in GoodTurns: with the function GoodTurns$1 (the operand is dropped in the turned form of GoodTurns)
theorem packet_pred (w : World) : PredI 36 #[] (fun x => !inR 1 20 x) w := by
  intro W x _
  have H := Aside0.mk (show impl_isPacket.f x = some (inR 1 20 x) by unfold impl_isPacket.f; rw [in_inR]; rfl)
  show Calls Try.prog 36 #[.int .i64 x] W fun e w' => e = .returned (.bool (!inR 1 20 x)) ∧ Drawn0 W w'
  generalize inR 1 20 x = b at H ⊢
  go_enter Try.func36, Try.ntmps36
  go_wp2_with (go_at_call 37; (with_reducible refine (impl_isPacket.calls x b _ H.out).mono ?_); rintro e w' ⟨rfl, ⟨nd, rfl⟩⟩)
  go_ret
  exact ⟨rfl, by repeat (first | exact Drawn0.refl _ | apply Drawn0.step)⟩
def slices_ContainsFunc_int_int.f (l0 : List Int) : Option (Bool) := some (l0.any (fun x => !inR 1 20 x))
theorem slices_ContainsFunc_int_int.calls (A0 : Option Addr) (c0 : Nat) (l0 : List Int) (r : Bool) (w : World) (hr0 : Kd.C (Kd.int .i64) w A0 l0.length l0) (hc0 : l0.length ≤ c0) (h : slices_ContainsFunc_int_int.f l0 = some r) :
    Calls Try.prog 35 #[.slice A0 l0.length c0, .func (.func 36) #[] #[]] w fun e w' => e = .returned (.bool r) ∧ Drawn0 w w' := by
  obtain rfl := Option.some.inj h
  exact containsFuncI 36 #[] (fun x => !inR 1 20 x) (Go.Proofs.enters_of Try.func36 (by kernel_rfl) rfl) A0 c0 l0 w (packet_pred _) hr0 hc0


end Go.Proofs.Ytfbiekobmgclhaa.P
