-- Made by pw.py (wip/tools) with the kit's print. Not trusted: Lean checks it.
import Derived.Test.YtanbjngipeblmaaDoorP0
import Derived.Test.YtanbjngipeblmaaDoorAInR
import Derived.Test.YtanbjngipeblmaaDoorAPredStr
import Derived.Test.YtanbjngipeblmaaDoorPf23
namespace Go.Proofs.YtanbjngipeblmaaDoor.P
open Go.RowKit Go.Proofs.YtanbjngipeblmaaDoorW.PrintWords Go.Proofs.YtanbjngipeblmaaDoorW.PrintLast Go.Proofs.YtanbjngipeblmaaDoorW.PrintMore
attribute [local go_sem] max2_int min2_int max_two min_two max_three min_three max_four min_four
set_option linter.unusedVariables false
set_option linter.unusedSimpArgs false

/-! ### impl_arePieces: function 14 (by hand) -/
def badP (l0 : List ByteArray) (p : ByteArray) : Bool := p.size != (rdOf ByteArray.empty l0 0).size
set_option maxHeartbeats 2000000 in
theorem badP_pred (B c0 : Nat) (ad : Addr) (l0 : List ByteArray) (w : World) (hB : B < w.heap.size) (hc : w.cell? ⟨B, 0, none⟩ = some (.slice (some ad) l0.length c0)) (hp : 0 < l0.length) (hx : w.cell? ad = some (.string (rdOf ByteArray.empty l0 0))) :
    PredStr 25 #[.pointer (some ⟨B, 0, none⟩)] (badP l0) w := by
  intro W p hb
  have hc' := (hb.cell (p := ⟨B, 0, none⟩) hB).trans hc
  have hx' := (hb.cell (World.block_lt_of_cell? w _ hx)).trans hx
  have c1 : decide ((0 : Int) < (l0.length : Int)) = true := by simpa using hp
  have c2 : decide (0 < l0.length) = true := by simpa using hp
  clear hc hx hb hB
  show Calls Tryd.prog 25 #[.string p, .pointer (some ⟨B, 0, none⟩)] W fun e w' => e = .returned (.bool (p.size != (rdOf ByteArray.empty l0 0).size)) ∧ Drawn0 W w'
  generalize rdOf ByteArray.empty l0 0 = q at hx'
  have HE := Aside0.mk (show ((p.size : Int) != (q.size : Int)) = (p.size != q.size) by rw [Bool.eq_iff_iff]; simp; omega)
  generalize l0.length = n at hc' hp c1 c2
  go_enter Tryd.func25, Tryd.ntmps25
  go_wp2
  go_ret
  exact ⟨by rw [HE.out]; rfl, by repeat (first | exact Drawn0.refl _ | apply Drawn0.step)⟩
def impl_arePieces.f (l0 : List ByteArray) : Option (Bool) := some (inR 1 8 (l0.length : Int) && (decide ((rdOf ByteArray.empty l0 0).size ≤ 16) && !l0.any (badP l0)))
set_option maxHeartbeats 4000000 in
theorem impl_arePieces.calls (A0 : Option Addr) (c0 : Nat) (l0 : List ByteArray) (r : Bool) (w : World) (hr0 : Kd.C Kd.string w A0 l0.length l0) (hc0 : l0.length ≤ c0) (h : impl_arePieces.f l0 = some r) :
    Calls Tryd.prog 14 #[.slice A0 l0.length c0] w fun e w' => e = .returned (.bool r) ∧ Below w.heap.size w w' := by
  obtain rfl := Option.some.inj h
  clear h
  have H1 := Aside0.mk (in_inR 1 8 (l0.length : Int))
  cases hb1 : inR 1 8 (l0.length : Int) with
  | false =>
    rw [hb1] at H1
    clear hr0 hc0 hb1
    generalize l0.length = n at H1
    go_enter Tryd.func14, Tryd.ntmps14
    go_wp2_with (go_at_call 23; (with_reducible refine (impl_in.calls _ 1 8 _ _ H1.out).mono ?_); rintro e w' ⟨rfl, ⟨nd, rfl⟩⟩)
    go_ret
    exact ⟨by simp, by repeat (first | exact Below.refl _ _ | apply below_alloc | apply pw_below_drewN)⟩
  | true =>
    rw [hb1] at H1
    have hpos : 0 < l0.length := by
      have := of_decide_eq_true hb1
      omega
    obtain ⟨ad, e, hx⟩ := Kd.at_string hr0 0 (by omega) (by omega)
    cases e
    have hx0 : w.cell? ad = some (.string (rdOf ByteArray.empty l0 0)) := by
      have e0 : ad.add (0 : Int).toNat = ad := by unfold Addr.add; cases ad; simp
      rwa [e0] at hx
    have hlt := World.block_lt_of_cell? w _ hx0
    have HQ : ∀ (B : Nat) (W : World), Below w.heap.size w W → B < W.heap.size → W.cell? ⟨B, 0, none⟩ = some (Value.slice (some ad) l0.length c0) → _ := fun B W hb h1 h2 => containsFuncStr 25 #[.pointer (some ⟨B, 0, none⟩)] (badP l0) (Go.Proofs.enters_of Tryd.func25 (by kernel_rfl) rfl) (some ad) c0 l0 W (badP_pred B c0 ad l0 W h1 h2 hpos ((hb.cell hlt).trans hx0)) (Kd.C_below hr0 hb) hc0
    have HQ' := Aside0.mk HQ
    have hxA : ∀ o, (w.alloc o).cell? ad = some (.string (rdOf ByteArray.empty l0 0)) := fun o => (World.cell?_alloc_old w o _ (Nat.ne_of_lt hlt)).trans hx0
    have c1 : decide ((0 : Int) < (l0.length : Int)) = true := by simpa using hpos
    have c2 : decide (0 < l0.length) = true := by simpa using hpos
    clear HQ hr0 hc0 hb1 hx hx0 hlt
    generalize l0.any (badP l0) = b2 at HQ' ⊢
    generalize rdOf ByteArray.empty l0 0 = q at hxA ⊢
    by_cases h16 : q.size ≤ 16
    · have d1 : decide ((q.size : Int) > 16) = false := by simp; omega
      have d2 : decide ((16 : Int) < (q.size : Int)) = false := by simp; omega
      have d3 : decide (q.size ≤ 16) = true := decide_eq_true h16
      clear h16
      go_enter Tryd.func14, Tryd.ntmps14
      go_wp2_with (first | (go_at_call 23; (with_reducible refine (impl_in.calls _ 1 8 _ _ H1.out).mono ?_); rintro e w' ⟨rfl, ⟨nd, rfl⟩⟩) | (go_at_call 24; refine (HQ'.out _ _ (by repeat (first | exact Below.refl _ _ | apply below_alloc | apply pw_below_drewN)) (by simp) (by go_simp)).mono ?_; rintro e w' ⟨rfl, ⟨nd2, rfl⟩⟩))
      go_ret
      exact ⟨by simp [d3], by repeat (first | exact Below.refl _ _ | apply below_alloc | apply pw_below_drewN)⟩
    · have d1 : decide ((q.size : Int) > 16) = true := by simp; omega
      have d2 : decide ((16 : Int) < (q.size : Int)) = true := by simp; omega
      have d3 : decide (q.size ≤ 16) = false := decide_eq_false h16
      clear h16
      go_enter Tryd.func14, Tryd.ntmps14
      go_wp2_with (go_at_call 23; (with_reducible refine (impl_in.calls _ 1 8 _ _ H1.out).mono ?_); rintro e w' ⟨rfl, ⟨nd, rfl⟩⟩)
      go_ret
      exact ⟨by simp [d3], by repeat (first | exact Below.refl _ _ | apply below_alloc | apply pw_below_drewN)⟩


end Go.Proofs.YtanbjngipeblmaaDoor.P
