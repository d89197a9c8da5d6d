-- Made by pw.py (wip/tools) with the kit's print. Not trusted: Lean checks it.
import Derived.Test.YtgdpkkmjjmmimaaP0
import Derived.Test.YtgdpkkmjjmmimaaAInR
import Derived.Test.YtgdpkkmjjmmimaaAPredInt
import Derived.Test.YtgdpkkmjjmmimaaPf13
import Derived.Test.YtgdpkkmjjmmimaaPf39
import Derived.Test.YtgdpkkmjjmmimaaPf42
import Derived.Test.YtgdpkkmjjmmimaaPf43
namespace Go.Proofs.Ytgdpkkmjjmmimaa.P
open Go.RowKit Go.Proofs.YtgdpkkmjjmmimaaW.PrintWords Go.Proofs.YtgdpkkmjjmmimaaW.PrintLast Go.Proofs.YtgdpkkmjjmmimaaW.PrintMore
attribute [local go_sem] max2_int min2_int max_two min_two max_three min_three max_four min_four
set_option linter.unusedVariables false
set_option linter.unusedSimpArgs false

/-! ### impl_SpanOf: function 16 (by hand) -/
theorem hand_pred (B : Nat) (a1 : Int) (w : World) (hB : B < w.heap.size) (hc : w.cell? ⟨B, 0, none⟩ = some (.int .i64 a1)) : PredI 41 #[.pointer (some ⟨B, 0, none⟩)] (fun x => !inR 0 (wrap64 (a1 - 1)) x) w := by
  intro W x hb
  have hc' := (hb.cell (p := ⟨B, 0, none⟩) hB).trans hc
  clear hc
  have H := Aside0.mk (in_inR 0 (wrap64 (a1 - 1)) x)
  show Calls Try.prog 41 #[.int .i64 x, .pointer (some ⟨B, 0, none⟩)] W fun e w' => e = .returned (.bool (!inR 0 (wrap64 (a1 - 1)) x)) ∧ Drawn0 W w'
  generalize inR 0 (wrap64 (a1 - 1)) x = b at H ⊢
  go_enter Try.func41, Try.ntmps41
  go_wp2_with (go_at_call 39; (with_reducible refine (impl_in.calls x 0 (wrap64 (a1 - 1)) b _ H.out).mono ?_); rintro e w' ⟨rfl, ⟨nd, rfl⟩⟩)
  go_ret
  exact ⟨rfl, by repeat (first | exact Drawn0.refl _ | apply Drawn0.step)⟩
def impl_SpanOf.f (k : Nat) (l0 : List Int) (a1 : Int) (l2 : List Int) : Option (Int × Bool) := (impl_GoodChores.f l0 a1).bind fun t => if t = true then (if l2.length = l0.length then (if l2.any (fun x => !inR 0 (wrap64 (a1 - 1)) x) = true then some (0, false) else (impl_loads.f k l0 a1 l2).bind fun y => (slices_Max_int_int.f y).bind fun m => some (m, true)) else some (0, false)) else some (0, false)
theorem impl_SpanOf.mono : ∀ a0 a1 a2 k, LeO (impl_SpanOf.f k a0 a1 a2) (impl_SpanOf.f (k + 1) a0 a1 a2) := by
  intro a0 a1 a2 k
  unfold impl_SpanOf.f
  repeat' first
      | (with_reducible exact impl_loads.mono _ _ _ _)
      | (with_reducible exact LeO.refl _)
      | (with_reducible refine LeO.ite ?_ ?_)
      | (with_reducible refine LeO.bind ?_ (fun _ => ?_))
set_option maxHeartbeats 2000000 in
theorem impl_SpanOf.calls (k : Nat) (A0 : Option Addr) (c0 : Nat) (l0 : List Int) (a1 : Int) (A2 : Option Addr) (c2 : Nat) (l2 : List Int) (r1 : Int) (r2 : Bool) (w : World) (hr0 : Kd.C (Kd.int .i64) w A0 l0.length l0) (hc0 : l0.length ≤ c0) (hr2 : Kd.C (Kd.int .i64) w A2 l2.length l2) (hc2 : l2.length ≤ c2) (h : impl_SpanOf.f k l0 a1 l2 = some (r1, r2)) :
    Calls Try.prog 16 #[.slice A0 l0.length c0, .int .i64 a1, .slice A2 l2.length c2] w fun e w' => e = .returned (.tuple #[.int .i64 r1, .bool r2]) ∧ Below w.heap.size w w' := by
  have HR0 := Aside0.mk hr0
  have HC0 := Aside0.mk hc0
  have HR2 := Aside0.mk hr2
  have HC2 := Aside0.mk hc2
  clear hr0 hc0 hr2 hc2
  unfold impl_SpanOf.f at h
  obtain ⟨t, ht, h⟩ := Option.bind_eq_some_iff.mp h
  have HA : ∀ W, Below w.heap.size w W → _ := fun W hb => impl_GoodChores.calls A0 c0 l0 a1 t W (Kd.C_below HR0.out hb) HC0.out ht
  clear ht
  have HA' := Aside0.mk HA
  clear HA
  cases t with
  | false =>
    have HH := Aside0.mk h
    clear h
    go_enter Try.func16, Try.ntmps16
    go_wp2_with (go_at_call 13; refine (HA'.out _ (by repeat (first | exact Below.refl _ _ | apply below_alloc | apply pw_below_drewN))).mono ?_; rintro e w' ⟨rfl, ⟨nd, rfl⟩⟩)
    go_ret2
    refine ⟨?_, by repeat (first | exact Below.refl _ _ | apply below_alloc | apply pw_below_drewN)⟩
    have := HH.out
    simp at this
    obtain ⟨rfl, rfl⟩ := this
    rfl
  | true =>
    rw [if_pos rfl] at h
    by_cases hl : l2.length = l0.length
    · rw [if_pos hl] at h
      have e1 : ((l2.length : Int) != (l0.length : Int)) = false := by rw [hl]; simp
      have e2 : (l2.length != l0.length) = false := by rw [hl]; simp
      have e3 : ((l2.length : Int) == (l0.length : Int)) = true := by rw [hl]; simp
      have e4 : (l2.length == l0.length) = true := by rw [hl]; simp
      have HQ : ∀ B W, Below w.heap.size w W → B < W.heap.size → W.cell? ⟨B, 0, none⟩ = some (.int .i64 a1) → _ := fun B W hb h1 h2 => containsFuncI 41 #[.pointer (some ⟨B, 0, none⟩)] (fun x => !inR 0 (wrap64 (a1 - 1)) x) (Go.Proofs.enters_of Try.func41 (by kernel_rfl) rfl) A2 c2 l2 W (hand_pred B a1 W h1 h2) (Kd.C_below HR2.out hb) HC2.out
      clear hl
      cases hq : l2.any (fun x => !inR 0 (wrap64 (a1 - 1)) x) with
      | true =>
        rw [hq] at h HQ
        have HH := Aside0.mk h
        have HQ' := Aside0.mk HQ
        clear h HQ hq
        go_enter Try.func16, Try.ntmps16
        go_wp2_with (first | (go_at_call 13; refine (HA'.out _ (by repeat (first | exact Below.refl _ _ | apply below_alloc | apply pw_below_drewN))).mono ?_; rintro e w' ⟨rfl, ⟨nd, rfl⟩⟩) | (go_at_call 37; refine (HQ'.out _ _ (by repeat (first | exact Below.refl _ _ | apply below_alloc | apply pw_below_drewN)) (by simp) (by go_simp)).mono ?_; rintro e w' ⟨rfl, ⟨nd, rfl⟩⟩))
        go_ret2
        refine ⟨?_, by repeat (first | exact Below.refl _ _ | apply below_alloc | apply pw_below_drewN)⟩
        have := HH.out
        simp at this
        obtain ⟨rfl, rfl⟩ := this
        rfl
      | false =>
        rw [hq] at h HQ
        have HQ' := Aside0.mk HQ
        clear HQ hq
        rw [if_neg (by simp)] at h
        obtain ⟨y, hy, h⟩ := Option.bind_eq_some_iff.mp h
        obtain ⟨m, hm, h⟩ := Option.bind_eq_some_iff.mp h
        have HY := Aside0.mk hy
        have HM := Aside0.mk hm
        have HH := Aside0.mk h
        clear h hy hm
        go_enter Try.func16, Try.ntmps16
        go_wp2_with (first | (go_at_call 13; refine (HA'.out _ (by repeat (first | exact Below.refl _ _ | apply below_alloc | apply pw_below_drewN))).mono ?_; rintro e w' ⟨rfl, ⟨nd, rfl⟩⟩) | (go_at_call 37; refine (HQ'.out _ _ (by repeat (first | exact Below.refl _ _ | apply below_alloc | apply pw_below_drewN)) (by simp) (by go_simp)).mono ?_; rintro e w' ⟨rfl, ⟨nd, rfl⟩⟩) | (go_at_call 43; refine below_calls w (impl_loads.calls k _ _ l0 a1 _ _ l2 y _ (Kd.C_below HR0.out (by repeat (first | exact Below.refl _ _ | apply below_alloc | apply pw_below_drewN))) HC0.out (Kd.C_below HR2.out (by repeat (first | exact Below.refl _ _ | apply below_alloc | apply pw_below_drewN))) HC2.out HY.out) (by repeat (first | exact Below.refl _ _ | apply below_alloc | apply pw_below_drewN)) ?_; rintro e w' ⟨⟨v0, rfl, ho, hd⟩, hb⟩; have HB := Aside0.mk (hb hd); clear hb hd; obtain ⟨Ao, co, eo, hco, hro⟩ := Kd.R_reads ho; subst eo; have HRO := Aside0.mk hro; have HCO := Aside0.mk hco; clear hro hco ho) | (go_at_call 42; refine (slices_Max_int_int.calls _ _ y m _ HRO.out HCO.out HM.out).mono ?_; rintro e w' ⟨rfl, ⟨nd, rfl⟩⟩))
        go_ret2
        refine ⟨?_, pw_below_drewN HB.out _⟩
        have := HH.out
        simp at this
        obtain ⟨rfl, rfl⟩ := this
        rfl
    · rw [if_neg hl] at h
      have e1 : ((l2.length : Int) != (l0.length : Int)) = true := by simp; omega
      have e2 : (l2.length != l0.length) = true := by simp; omega
      have e3 : ((l2.length : Int) == (l0.length : Int)) = false := by simp; omega
      have e4 : (l2.length == l0.length) = false := by simp; omega
      have HH := Aside0.mk h
      clear h hl
      go_enter Try.func16, Try.ntmps16
      go_wp2_with (go_at_call 13; refine (HA'.out _ (by repeat (first | exact Below.refl _ _ | apply below_alloc | apply pw_below_drewN))).mono ?_; rintro e w' ⟨rfl, ⟨nd, rfl⟩⟩)
      go_ret2
      refine ⟨?_, by repeat (first | exact Below.refl _ _ | apply below_alloc | apply pw_below_drewN)⟩
      have := HH.out
      simp at this
      obtain ⟨rfl, rfl⟩ := this
      rfl


end Go.Proofs.Ytgdpkkmjjmmimaa.P
