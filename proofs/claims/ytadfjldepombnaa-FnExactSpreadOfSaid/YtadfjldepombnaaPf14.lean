-- Made by pw.py (wip/tools) with the kit's print. Not trusted: Lean checks it.
import Derived.Test.YtadfjldepombnaaP0
import Derived.Test.YtadfjldepombnaaAIn
import Derived.Test.YtadfjldepombnaaAPredInt
import Derived.Test.YtadfjldepombnaaPf36
namespace Go.Proofs.Ytadfjldepombnaa.P
open Go.RowKit Go.Proofs.YtadfjldepombnaaW.PrintWords Go.Proofs.YtadfjldepombnaaW.PrintLast Go.Proofs.YtadfjldepombnaaW.PrintMore
attribute [local go_sem] max2_int min2_int max_two min_two max_three min_three max_four min_four
set_option linter.unusedVariables false
set_option linter.unusedSimpArgs false

/-! ### impl_GoodShares: function 14 (by hand) -/
def goodWin (x : Int) : Bool := decide (1 ≤ x ∧ x ≤ 10000)
theorem goodWin_pred (w : World) : PredI 38 #[] (fun x => !goodWin x) w := by
  intro W x _
  have H := Aside0.mk (in_as (a := x) (b := 1) (c := 10000) (r := goodWin x) rfl)
  show Calls Try.prog 38 #[.int .i64 x] W fun e w' => e = .returned (.bool (!goodWin x)) ∧ Drawn0 W w'
  generalize goodWin x = b at H ⊢
  go_enter Try.func38, Try.ntmps38
  go_wp2_with (go_at_call 36; (with_reducible refine (impl_in.calls x 1 10000 b _ H.out).mono ?_); rintro e w' ⟨rfl, ⟨nd, rfl⟩⟩)
  go_ret
  exact ⟨rfl, by repeat (first | exact Drawn0.refl _ | apply Drawn0.step)⟩
def impl_GoodShares.f (l0_0 : List Int) (a0_1 : Int) : Option (Bool) := some (decide (1 ≤ (l0_0.length : Int) ∧ (l0_0.length : Int) ≤ 5) && (!l0_0.any (fun x => !goodWin x) && decide (1 ≤ a0_1 ∧ a0_1 ≤ 40000)))
set_option maxHeartbeats 2000000 in
theorem impl_GoodShares.calls (A0_0 : Option Addr) (c0_0 : Nat) (l0_0 : List Int) (a0_1 : Int) (r : Bool) (w : World) (hr0_0 : Kd.C (Kd.int .i64) w A0_0 l0_0.length l0_0) (hc0_0 : l0_0.length ≤ c0_0) (h : impl_GoodShares.f l0_0 a0_1 = some r) :
    Calls Try.prog 14 #[.agg #[.slice A0_0 l0_0.length c0_0, .int .i64 a0_1]] w fun e w' => e = .returned (.bool r) ∧ Below w.heap.size w w' := by
  have HR := Aside0.mk hr0_0
  have HC := Aside0.mk hc0_0
  clear hr0_0 hc0_0
  have hu := Try.underlying27
  obtain rfl := Option.some.inj h
  clear h
  have H1 := Aside0.mk (in_as (a := (l0_0.length : Int)) (b := 1) (c := 5) rfl)
  have H3 := Aside0.mk (in_as (a := a0_1) (b := 1) (c := 40000) rfl)
  have H2 : ∀ W, Below w.heap.size w W → _ := fun W hb => containsFuncI 38 #[] (fun x => !goodWin x) (Go.Proofs.enters_of Try.func38 (by kernel_rfl) rfl) A0_0 c0_0 l0_0 W (goodWin_pred W) (Kd.C_below HR.out hb) HC.out
  generalize decide (1 ≤ (l0_0.length : Int) ∧ (l0_0.length : Int) ≤ 5) = b1 at H1 ⊢
  generalize decide (1 ≤ a0_1 ∧ a0_1 ≤ 40000) = b3 at H3 ⊢
  generalize l0_0.any (fun x => !goodWin x) = b2 at H2 ⊢
  have H2' := Aside0.mk H2
  clear H2
  cases b1 with
  | false =>
    go_enter Try.func14, Try.ntmps14
    go_wp2_with (go_at_call 36; (with_reducible refine (impl_in.calls _ 1 5 _ _ H1.out).mono ?_); rintro e w' ⟨rfl, ⟨nd, rfl⟩⟩)
    go_ret
    exact ⟨rfl, by repeat (first | exact Below.refl _ _ | apply below_alloc | apply pw_below_drewN)⟩
  | true =>
    cases b2 with
    | true =>
      go_enter Try.func14, Try.ntmps14
      go_wp2_with (first | (go_at_call 36; (with_reducible refine (impl_in.calls _ 1 5 _ _ H1.out).mono ?_); rintro e w' ⟨rfl, ⟨nd, rfl⟩⟩) | (go_at_call 37; refine (H2'.out _ (by repeat (first | exact Below.refl _ _ | apply below_alloc | apply pw_below_drewN))).mono ?_; rintro e w' ⟨rfl, ⟨nd, rfl⟩⟩))
      go_ret
      exact ⟨rfl, by repeat (first | exact Below.refl _ _ | apply below_alloc | apply pw_below_drewN)⟩
    | false =>
      go_enter Try.func14, Try.ntmps14
      go_wp2_with (first | (go_at_call 36; (with_reducible refine (impl_in.calls _ 1 5 _ _ H1.out).mono ?_); rintro e w' ⟨rfl, ⟨nd, rfl⟩⟩) | (go_at_call 36; (with_reducible refine (impl_in.calls a0_1 1 40000 _ _ H3.out).mono ?_); rintro e w' ⟨rfl, ⟨nd, rfl⟩⟩) | (go_at_call 37; refine (H2'.out _ (by repeat (first | exact Below.refl _ _ | apply below_alloc | apply pw_below_drewN))).mono ?_; rintro e w' ⟨rfl, ⟨nd, rfl⟩⟩))
      go_ret
      exact ⟨by simp, by repeat (first | exact Below.refl _ _ | apply below_alloc | apply pw_below_drewN)⟩


end Go.Proofs.Ytadfjldepombnaa.P
