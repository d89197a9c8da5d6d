/- FnExactLastArrival: for every input that can be read, the law returns true and its arguments read as before. Conditions: none beyond the row's own. (Part 2 of 2: contracts made by pw.py with the kit's print, contracts by hand, plain laws, the row.) -/
import Derived.Test.YtgdpkkmjjmmimaaMFnExactLastArrival0
import Derived.Test.YtgdpkkmjjmmimaaRows
import Derived.WalkKit
import Derived.ProofKit
import Derived.OpenShut
import Derived.ShutString
import Derived.ChangeOld
import Derived.Below
import Derived.SizedLaws
import Derived.Carry

namespace Go.Proofs.Ytgdpkkmjjmmimaa.P
open Go.RowKit Go.Proofs.YtgdpkkmjjmmimaaW.PrintWords Go.Proofs.YtgdpkkmjjmmimaaW.PrintLast Go.Proofs.YtgdpkkmjjmmimaaW.PrintMore
attribute [local go_sem] max2_int min2_int max_two min_two max_three min_three max_four min_four
set_option linter.unusedVariables false
set_option linter.unusedSimpArgs false

/-! ### spec_GoodChores: function 11 -/
def spec_GoodChores.f (k : Nat) (l0 : List Int) (a1 : Int) : Option (Bool) := if (l0.length : Int) ≤ 8 then ((spec_l1All.f k l0 1 50).bind fun t101 => (if t101 = true then ((spec_l1In.f a1 1 4).bind fun t102 => (some t102)) else (some false))) else (some false)
theorem spec_GoodChores.mono : ∀ a0 a1 k, LeO (spec_GoodChores.f k a0 a1) (spec_GoodChores.f (k + 1) a0 a1) := by
  intro a0 a1 k
  unfold spec_GoodChores.f
  repeat' first
      | (with_reducible exact spec_l1All.mono _ _ _ _)
      | (with_reducible exact LeO.refl _)
      | (with_reducible exact LeO.none _)
      | (with_reducible refine LeO.ite ?_ ?_)
      | (with_reducible refine LeO.bind ?_ (fun _ => ?_))
      | exact spec_l1All.mono _ _ _ _
      | exact LeO.none _
      | refine LeO.ite ?_ ?_
      | refine LeO.bind ?_ (fun _ => ?_)
set_option maxHeartbeats 8000000 in
set_option maxRecDepth 100000 in
theorem spec_GoodChores.calls (k : Nat) (A0 : Option Addr) (c0 : Nat) (l0 : List Int) (a1 : Int) (r : Bool) (w : World) (hr0 : Kd.C (Kd.int .i64) w A0 l0.length l0) (hc0 : l0.length ≤ c0) (h : spec_GoodChores.f k l0 a1 = some r) :
    Calls Try.prog 11 #[.slice A0 l0.length c0, .int .i64 a1] w fun e w' => e = .returned (.bool r) ∧ Drawn0 w w' := by
  have HR0 := Aside0.mk hr0
  have HC0 := Aside0.mk hc0
  clear hr0 hc0
  have H : (if (l0.length : Int) ≤ 8 then ((spec_l1All.f k l0 1 50).bind fun t101 => (if t101 = true then ((spec_l1In.f a1 1 4).bind fun t102 => (some t102)) else (some false))) else (some false)) = some r := h
  clear h
  by_cases c3 : (l0.length : Int) ≤ 8
  · rw [if_pos c3] at H
    have c3b0 : decide ((l0.length : Int) ≤ 8) = true := decide_eq_true c3
    have c3b1 : decide (l0.length ≤ 8) = true := decide_eq_true (by omega)
    clear c3
    replace H := Option.bind_eq_some_iff.mp H
    obtain ⟨t101, A40, H⟩ := H
    replace H : (if t101 = true then ((spec_l1In.f a1 1 4).bind fun t102 => (some t102)) else (some false)) = some r := H
    have A4 := Aside0.mk A40
    clear A40
    by_cases c5 : t101 = true
    · subst c5
      have H1 : ((spec_l1In.f a1 1 4).bind fun t102 => (some t102)) = some r := by rw [if_pos rfl] at H; exact H
      clear H
      have H := H1
      clear H1
      replace H := Option.bind_eq_some_iff.mp H
      obtain ⟨t102, A60, H⟩ := H
      replace H : (some t102) = some r := H
      have A6 := Aside0.mk A60
      clear A60
      obtain rfl := Option.some.inj H
      go_enter Try.func11, Try.ntmps11
      go_wp2_with (first | (go_at_call 35; (with_reducible refine (spec_l1All.calls k _ _ l0 1 50 true _ ?side1 ?side2 A4.out).mono ?_); (case side1 => repeat (first | exact HR0.out | (with_reducible refine Kd.C_alloc ?_ _) | (with_reducible refine Kd.C_drewN ?_ _) | (with_reducible refine Kd.C_drew ?_))); (case side2 => exact HC0.out); rintro e w' ⟨rfl, ⟨nd, rfl⟩⟩) | (go_at_call 36; (with_reducible refine (spec_l1In.calls a1 1 4 t102 _ A6.out).mono ?_); rintro e w' ⟨rfl, ⟨nd, rfl⟩⟩))
      go_ret
      exact ⟨by first | rfl | (simp; done) | (simp [*]; done), by repeat (first | exact Drawn0.refl _ | apply Drawn0.step)⟩
    · replace c5 := Bool.eq_false_iff.mpr c5
      subst c5
      have H1 : (some false) = some r := by rw [if_neg (show ¬ (false = true) by decide)] at H; exact H
      clear H
      have H := H1
      clear H1
      obtain rfl := Option.some.inj H
      go_enter Try.func11, Try.ntmps11
      go_wp2_with (first | (go_at_call 35; (with_reducible refine (spec_l1All.calls k _ _ l0 1 50 false _ ?side1 ?side2 A4.out).mono ?_); (case side1 => repeat (first | exact HR0.out | (with_reducible refine Kd.C_alloc ?_ _) | (with_reducible refine Kd.C_drewN ?_ _) | (with_reducible refine Kd.C_drew ?_))); (case side2 => exact HC0.out); rintro e w' ⟨rfl, ⟨nd, rfl⟩⟩))
      go_ret
      exact ⟨by first | rfl | (simp; done) | (simp [*]; done), by repeat (first | exact Drawn0.refl _ | apply Drawn0.step)⟩
  · rw [if_neg c3] at H
    have c3b0 : decide ((l0.length : Int) ≤ 8) = false := decide_eq_false c3
    have c3b1 : decide (l0.length ≤ 8) = false := decide_eq_false (by omega)
    clear c3
    obtain rfl := Option.some.inj H
    go_enter Try.func11, Try.ntmps11
    go_wp2
    go_ret
    exact ⟨by first | rfl | (simp; done) | (simp [*]; done), by repeat (first | exact Drawn0.refl _ | apply Drawn0.step)⟩

end Go.Proofs.Ytgdpkkmjjmmimaa.P

namespace Go.Proofs.Ytgdpkkmjjmmimaa.P
open Go.RowKit Go.Proofs.YtgdpkkmjjmmimaaW.PrintWords Go.Proofs.YtgdpkkmjjmmimaaW.PrintLast Go.Proofs.YtgdpkkmjjmmimaaW.PrintMore
attribute [local go_sem] max2_int min2_int max_two min_two max_three min_three max_four min_four
set_option linter.unusedVariables false
set_option linter.unusedSimpArgs false

/-! ### impl_GoodChores: function 13 (by hand) -/
theorem chore_pred (w : World) : PredI 38 #[] (fun x => !inR 1 50 x) w := by
  intro W x _
  have H := Aside0.mk (in_inR 1 50 x)
  show Calls Try.prog 38 #[.int .i64 x] W fun e w' => e = .returned (.bool (!inR 1 50 x)) ∧ Drawn0 W w'
  generalize inR 1 50 x = b at H ⊢
  go_enter Try.func38, Try.ntmps38
  go_wp2_with (go_at_call 39; (with_reducible refine (impl_in.calls x 1 50 b _ H.out).mono ?_); rintro e w' ⟨rfl, ⟨nd, rfl⟩⟩)
  go_ret
  exact ⟨rfl, by repeat (first | exact Drawn0.refl _ | apply Drawn0.step)⟩
def impl_GoodChores.f (l0 : List Int) (a1 : Int) : Option (Bool) := some (decide ((l0.length : Int) ≤ 8) && (!l0.any (fun x => !inR 1 50 x) && inR 1 4 a1))
set_option maxHeartbeats 2000000 in
theorem impl_GoodChores.calls (A0 : Option Addr) (c0 : Nat) (l0 : List Int) (a1 : Int) (r : Bool) (w : World) (hr0 : Kd.C (Kd.int .i64) w A0 l0.length l0) (hc0 : l0.length ≤ c0) (h : impl_GoodChores.f l0 a1 = some r) :
    Calls Try.prog 13 #[.slice A0 l0.length c0, .int .i64 a1] w fun e w' => e = .returned (.bool r) ∧ Drawn0 w w' := by
  have HR := Aside0.mk hr0
  have HC := Aside0.mk hc0
  clear hr0 hc0
  obtain rfl := Option.some.inj h
  clear h
  have H3 := Aside0.mk (in_inR 1 4 a1)
  have H2 : ∀ q, _ := fun q => containsFuncI 38 #[] (fun x => !inR 1 50 x) (Go.Proofs.enters_of Try.func38 (by kernel_rfl) rfl) A0 c0 l0 (w.drewN q) (chore_pred _) (Kd.C_below HR.out (pw_below_drewN (Below.refl _ w) q)) HC.out
  generalize inR 1 4 a1 = b3 at H3 ⊢
  generalize l0.any (fun x => !inR 1 50 x) = b2 at H2 ⊢
  have H2' := Aside0.mk H2
  clear H2
  by_cases hl : l0.length ≤ 8
  · have e1 : decide ((l0.length : Int) ≤ 8) = true := decide_eq_true (by omega)
    have e2 : decide (l0.length ≤ 8) = true := decide_eq_true hl
    cases b2 with
    | true =>
      go_enter Try.func13, Try.ntmps13
      go_wp2_with (go_at_call 37; refine (H2'.out 0).mono ?_; rintro e w' ⟨rfl, ⟨nd, rfl⟩⟩)
      go_ret
      exact ⟨by rw [e1]; rfl, by repeat (first | exact Drawn0.refl _ | apply Drawn0.step)⟩
    | false =>
      go_enter Try.func13, Try.ntmps13
      go_wp2_with (first | (go_at_call 37; refine (H2'.out 0).mono ?_; rintro e w' ⟨rfl, ⟨nd, rfl⟩⟩) | (go_at_call 39; (with_reducible refine (impl_in.calls a1 1 4 b3 _ H3.out).mono ?_); rintro e w' ⟨rfl, ⟨nd, rfl⟩⟩))
      go_ret
      exact ⟨by rw [e1]; rfl, by repeat (first | exact Drawn0.refl _ | apply Drawn0.step)⟩
  · have e1 : decide ((l0.length : Int) ≤ 8) = false := decide_eq_false (by omega)
    have e2 : decide (l0.length ≤ 8) = false := decide_eq_false hl
    go_enter Try.func13, Try.ntmps13
    go_wp2
    go_ret
    exact ⟨by rw [e1]; rfl, by repeat (first | exact Drawn0.refl _ | apply Drawn0.step)⟩


end Go.Proofs.Ytgdpkkmjjmmimaa.P

namespace Go.Proofs.Ytgdpkkmjjmmimaa.Pure
open Go.RowKit Go.Proofs.Ytgdpkkmjjmmimaa.P Go.Proofs.YtgdpkkmjjmmimaaW.PrintWords Go.Proofs.YtgdpkkmjjmmimaaW.PrintLast Go.Proofs.Ytgdpkkmjjmmimaa.Opn
set_option linter.unusedVariables false
set_option linter.unusedSimpArgs false

def goodC (l : List Int) (a : Int) : Bool := decide ((l.length : Int) ≤ 8) && (l.all (fun x => decide (1 ≤ x ∧ x ≤ 50)) && decide (1 ≤ a ∧ a ≤ 4))
theorem any_inR (l : List Int) (lo hi : Int) : (!l.any (fun x => !inR lo hi x)) = l.all (fun x => decide (lo ≤ x ∧ x ≤ hi)) := by
  rw [List.all_eq_not_any_not]
  rfl
theorem impl_goodC (l : List Int) (a : Int) : impl_GoodChores.f l a = some (goodC l a) := by
  unfold impl_GoodChores.f goodC
  rw [any_inR]
  rfl
theorem spec_goodC (l : List Int) (a : Int) (hn : l.length ≤ 1048576) (k : Nat) (hk : l.length < k) : spec_GoodChores.f k l a = some (goodC l a) := by
  unfold spec_GoodChores.f goodC
  rw [l1All l 1 50 hn k hk]
  by_cases h : (l.length : Int) ≤ 8
  · rw [if_pos h]
    simp only [Option.bind_some, spec_in, h, decide_true, Bool.true_and]
    cases l.all (fun x => decide (1 ≤ x ∧ x ≤ 50)) <;> simp
  · rw [if_neg h]
    simp only [h, decide_false, Bool.false_and]
theorem goodC_fact {l : List Int} {a : Int} (h : goodC l a = true) : l.length ≤ 8 ∧ (∀ x ∈ l, 1 ≤ x ∧ x ≤ 50) ∧ 1 ≤ a ∧ a ≤ 4 := by
  unfold goodC at h
  simp only [Bool.and_eq_true, decide_eq_true_eq, List.all_eq_true] at h
  exact ⟨by omega, h.2.1, h.2.2⟩
theorem most_eq (a b : Int) : spec_l1Most.f a b = some (mx b a) := by
  unfold spec_l1Most.f mx
  by_cases h : a > b
  · rw [if_pos h, if_pos (by omega)]
  · rw [if_neg h, if_neg (by omega)]
theorem rd_mem (l : List Int) (i : Nat) (h : i < l.length) : rd l (i : Int) ∈ l := by
  rw [rd_nat l i h]
  exact List.getElem_mem h

end Go.Proofs.Ytgdpkkmjjmmimaa.Pure

namespace Go.Proofs.Ytgdpkkmjjmmimaa.Pure
open Go.RowKit Go.Proofs.Ytgdpkkmjjmmimaa.P Go.Proofs.YtgdpkkmjjmmimaaW.PrintWords Go.Proofs.YtgdpkkmjjmmimaaW.PrintLast Go.Proofs.Ytgdpkkmjjmmimaa.Opn
set_option linter.unusedVariables false
set_option linter.unusedSimpArgs false

def cvWay (x : S58) : S56 := ⟨x.f0, x.f1⟩
theorem rdWay (l : List S56) (i : Nat) (h : i < l.length) : rd_T56 l (i : Int) = l[i] := by
  simp [rd_T56, List.getD_eq_getElem?_getD, List.getElem?_eq_getElem h]
theorem rdLWay (l : List S58) (i : Nat) (h : i < l.length) : rd_T58 l (i : Int) = l[i] := by
  simp [rd_T58, List.getD_eq_getElem?_getD, List.getElem?_eq_getElem h]
theorem drop_rdWay (l : List S56) (i : Nat) (h : i < l.length) : l.drop i = rd_T56 l (i : Int) :: l.drop (i + 1) := by
  rw [List.drop_eq_getElem_cons h, rdWay l i h]
theorem szWayS_ok (l : List S58) (a : Int) (ha : 0 ≤ a) (ha2 : a ≤ 1048576) (h : (l.length : Int) ≤ a) : laws_szWayS.f l a = some (a - l.length) := by
  unfold laws_szWayS.f
  rw [wrap_id (by omega) (by omega), if_neg (by omega)]
theorem szWayS_big (l : List S58) (a : Int) (ha : 0 ≤ a) (ha2 : a ≤ 1048576) (hl : l.length ≤ 9223372036854775807) (h : ¬ (l.length : Int) ≤ a) : laws_szWayS.f l a = some (-1) := by
  unfold laws_szWayS.f
  rw [wrap_id (by omega) (by omega), if_pos (by omega)]
theorem toWayS_l0 (x : List S58) (hn : x.length ≤ 1048576) : ∀ (d k i : Nat) (y : List S56), i + d = x.length → d < k → y.length = x.length → y.take i = (x.map cvWay).take i → laws_toWayS.l0 k x y (i : Int) = some (x.map cvWay) := by
  intro d
  induction d with
  | zero =>
    intro k i y hi hk hy ht
    obtain ⟨k, rfl⟩ := round hk
    simp only [laws_toWayS.l0]
    rw [if_neg (by omega)]
    rw [List.take_of_length_le (by omega), List.take_of_length_le (by simp; omega)] at ht
    rw [ht]
  | succ d ih =>
    intro k i y hi hk hy ht
    obtain ⟨k, rfl⟩ := round hk
    simp only [laws_toWayS.l0, laws_toWay.f, Option.bind_some]
    rw [if_pos (by omega), if_pos (by omega), if_pos (by omega), wrap_id (by omega) (by omega), Int.toNat_natCast]
    have := ih k (i + 1) (y.set i (cvWay (rd_T58 x i))) (by omega) (by omega) (by simpa using hy) (by
      rw [take_set_succ _ _ (by omega), ht, List.take_succ_eq_append_getElem (by simp; omega), rdLWay x i (by omega), List.getElem_map])
    simpa [cvWay] using this
theorem toWayS (x : List S58) (hn : x.length ≤ 1048576) (k : Nat) (hk : x.length < k) : laws_toWayS.f k x = some (x.map cvWay) := by
  unfold laws_toWayS.f
  rw [if_pos (by omega), if_pos (by omega), Int.toNat_natCast]
  exact toWayS_l0 x hn x.length k 0 _ (by omega) hk (by simp) (by simp)
theorem eqWay_refl (x : S56) : laws_eqWay.f x.f0 x.f1 x.f0 x.f1 = some true := by
  unfold laws_eqWay.f
  simp
theorem eqWayS_l0 (x : List S56) (hn : x.length ≤ 1048576) : ∀ (d k i : Nat), i + d = x.length → d < k → laws_eqWayS.l0 k x x (i : Int) = some true := by
  intro d
  induction d with
  | zero =>
    intro k i hi hk
    obtain ⟨k, rfl⟩ := round hk
    simp only [laws_eqWayS.l0]
    rw [if_neg (by omega)]
  | succ d ih =>
    intro k i hi hk
    obtain ⟨k, rfl⟩ := round hk
    simp only [laws_eqWayS.l0]
    rw [if_pos (by omega), if_pos (by omega), if_pos (by omega), eqWay_refl, Option.bind_some, if_pos rfl, wrap_id (by omega) (by omega)]
    have := ih k (i + 1) (by omega) (by omega)
    simpa using this
theorem eqWayS (x : List S56) (hn : x.length ≤ 1048576) (k : Nat) (hk : x.length < k) : laws_eqWayS.f k x x = some true := by
  unfold laws_eqWayS.f
  rw [if_pos rfl]
  exact eqWayS_l0 x hn x.length k 0 (by omega) hk

end Go.Proofs.Ytgdpkkmjjmmimaa.Pure

namespace Go.Proofs.Ytgdpkkmjjmmimaa.Pure
open Go.RowKit Go.Proofs.Ytgdpkkmjjmmimaa.P Go.Proofs.YtgdpkkmjjmmimaaW.PrintWords Go.Proofs.YtgdpkkmjjmmimaaW.PrintLast Go.Proofs.Ytgdpkkmjjmmimaa.Opn
set_option linter.unusedVariables false
set_option linter.unusedSimpArgs false

def goodW (x : S56) : Bool := decide (0 ≤ x.f0 ∧ x.f0 ≤ 100) && decide (1 ≤ x.f1 ∧ x.f1 ≤ 20)
theorem ways_l0 (l : List S56) (hn : l.length ≤ 1048576) : ∀ (d k i : Nat), i + d = l.length → d < k → spec_l14Ways.l0 k l l (l.length : Int) (i : Int) = some ((l.drop i).all goodW && decide (1 ≤ (l.length : Int) ∧ (l.length : Int) ≤ 4)) := by
  intro d
  induction d with
  | zero =>
    intro k i h hk
    obtain ⟨k, rfl⟩ := round hk
    simp only [spec_l14Ways.l0]
    rw [if_neg (by omega), List.drop_of_length_le (by omega), spec_in]
    simp
  | succ d ih =>
    intro k i h hk
    obtain ⟨k, rfl⟩ := round hk
    simp only [spec_l14Ways.l0, spec_in, Option.bind_some]
    rw [if_pos (by omega), if_pos (by omega), if_pos (by omega), drop_rdWay l i (by omega), List.all_cons, wrap_id (x := (i : Int) + 1) (by omega) (by omega)]
    have := ih k (i + 1) (by omega) (by omega)
    have hg : goodW (rd_T56 l (i : Int)) = (decide (0 ≤ (rd_T56 l (i : Int)).f0 ∧ (rd_T56 l (i : Int)).f0 ≤ 100) && decide (1 ≤ (rd_T56 l (i : Int)).f1 ∧ (rd_T56 l (i : Int)).f1 ≤ 20)) := rfl
    by_cases h1 : 0 ≤ (rd_T56 l (i : Int)).f0 ∧ (rd_T56 l (i : Int)).f0 ≤ 100
    · by_cases h2 : 1 ≤ (rd_T56 l (i : Int)).f1 ∧ (rd_T56 l (i : Int)).f1 ≤ 20
      · rw [hg, if_pos (by simpa using h1), if_pos (by simpa using h2)]
        simp only [h1, h2, and_self, decide_true, Bool.true_and]
        simpa using this
      · rw [hg, if_pos (by simpa using h1), if_neg (by simpa using h2)]
        simp [h2]
    · rw [hg, if_neg (by simpa using h1)]
      simp [h1]
def goodWs (l : List S56) : Bool := l.all goodW && decide (1 ≤ (l.length : Int) ∧ (l.length : Int) ≤ 4)
theorem spec_ways (l : List S56) (hn : l.length ≤ 1048576) (k : Nat) (hk : l.length < k) : spec_l14Ways.f k l = some (goodWs l) := by
  unfold spec_l14Ways.f
  have := ways_l0 l hn l.length k 0 (by omega) hk
  simpa [goodWs] using this
theorem impl_ways (l : List S56) : impl_areWays.f l = some (goodWs l) := by
  unfold impl_areWays.f goodWs
  have : (!l.any badWay) = l.all goodW := by
    rw [List.all_eq_not_any_not]
    congr 2
    funext x
    simp [badWay, goodW, inR]
  rw [this, Bool.and_comm]
  rfl
theorem last_sim (l : List S56) (c : List Int) (hn : l.length ≤ 1048576) (hc : c.length = l.length) : ∀ (d k i : Nat) (m : Int), i + d = l.length → d < k → ∃ r, spec_l14Last.l0 k l m c (c.length : Int) (i : Int) = some r ∧ impl_last.l0 k c m l (l.length : Int) (i : Int) = some r := by
  intro d
  induction d with
  | zero =>
    intro k i m h hk
    obtain ⟨k, rfl⟩ := round hk
    refine ⟨m, ?_, ?_⟩
    · simp only [spec_l14Last.l0]
      rw [if_neg (by omega)]
    · simp only [impl_last.l0]
      rw [if_neg (by omega)]
  | succ d ih =>
    intro k i m h hk
    obtain ⟨k, rfl⟩ := round hk
    simp only [spec_l14Last.l0, impl_last.l0, most_eq, Option.bind_some]
    have e1 : (i : Int) < (c.length : Int) := by omega
    have e2 : (i : Int) < (l.length : Int) := by omega
    have e3 : (0 : Int) ≤ (i : Int) := by omega
    by_cases hp : rd c (i : Int) > 0
    · simp only [e1, e2, e3, hp, if_true, wrap_id (x := (i : Int) + 1) (by omega) (by omega)]
      have hcomm : ∀ a b : Int, mx a b = mx b a := by intro a b; unfold mx; split <;> split <;> omega
      rw [Int.mul_comm (rd_T56 l (i : Int)).f1, hcomm m]
      have := ih k (i + 1) (mx (wrap64 ((rd_T56 l (i : Int)).f0 + wrap64 (wrap64 (rd c (i : Int) - 1) * (rd_T56 l (i : Int)).f1))) m) (by omega) (by omega)
      simpa using this
    · simp only [e1, e2, e3, hp, if_true, if_false, wrap_id (x := (i : Int) + 1) (by omega) (by omega)]
      have := ih k (i + 1) m (by omega) (by omega)
      simpa using this
theorem lastArrival_eq (l : List S56) (c : List Int) (hn : l.length ≤ 1048576) (hm : c.length ≤ 1048576) (k : Nat) (hk : l.length < k) (hk2 : c.length < k) : ∃ r, spec_LastArrival.f k l c = some r ∧ impl_LastArrival.f k l c = some r := by
  unfold spec_LastArrival.f impl_LastArrival.f
  rw [spec_ways l hn k hk, impl_ways]
  simp only [Option.bind_some]
  by_cases hg : goodWs l = true
  · rw [if_pos hg, if_pos hg]
    by_cases hc : c.length = l.length
    · rw [if_pos (by omega), if_pos hc, l1All c _ _ hm k hk2]
      simp only [Option.bind_some]
      have ha := any_inR c 0 40
      by_cases hA : (c.all fun x => decide (0 ≤ x ∧ x ≤ 40)) = true
      · rw [hA] at ha
        rw [if_pos hA, if_neg (by simpa using ha)]
        obtain ⟨r, h1, h2⟩ := last_sim l c hn hc l.length k 0 0 (by omega) hk
        refine ⟨(r, true), ?_, ?_⟩
        · unfold spec_l14Last.f
          rw [show spec_l14Last.l0 k l 0 c (c.length : Int) 0 = some r from h1]
          rfl
        · unfold impl_last.f
          rw [show impl_last.l0 k c 0 l (l.length : Int) 0 = some r from h2]
          rfl
      · rw [Bool.not_eq_true] at hA
        rw [hA] at ha ⊢
        rw [if_neg (by simp), if_pos (by simpa using ha)]
        exact ⟨_, rfl, rfl⟩
    · rw [if_neg (by omega), if_neg hc]
      exact ⟨_, rfl, rfl⟩
  · rw [if_neg hg, if_neg hg]
    exact ⟨_, rfl, rfl⟩
theorem FnExactLastArrival : laws_FnExactLastArrival.Pure := by
  intro l c hl hc
  by_cases hm : c.length ≤ 1048576
  · by_cases hn : l.length ≤ 1048576
    · refine ⟨l.length + c.length + 2, ?_⟩
      have hn' : (l.map cvWay).length ≤ 1048576 := by simpa using hn
      obtain ⟨r, h1, h2⟩ := lastArrival_eq (l.map cvWay) c hn' hm (l.length + c.length + 2) (by simp; omega) (by omega)
      unfold laws_FnExactLastArrival.f
      rw [if_neg (by omega), szWayS_ok l _ (by omega) (by omega) (by omega), Option.bind_some, if_neg (by omega)]
      simp only [toWayS l hn (l.length + c.length + 2) (by omega), toIntS c hm (l.length + c.length + 2) (by omega), Option.bind_some, h1, h2, laws_FnExactLastArrival.j0, toWayS l hn (l.length + c.length + 1) (by omega), toIntS c hm (l.length + c.length + 1) (by omega), eqWayS (l.map cvWay) hn' (l.length + c.length + 1) (by simp; omega), eqIntS c c hm (l.length + c.length + 1) (by omega)]
      simp
    · refine ⟨0, ?_⟩
      unfold laws_FnExactLastArrival.f
      rw [if_neg (by omega), szWayS_big l _ (by omega) (by omega) hl.1 (by omega), Option.bind_some, if_pos (by omega)]
  · refine ⟨0, ?_⟩
    unfold laws_FnExactLastArrival.f
    rw [if_pos (by omega)]

end Go.Proofs.Ytgdpkkmjjmmimaa.Pure

namespace Go.Proofs.Ytgdpkkmjjmmimaa.fnExactLastArrival
open Go.ChangeShapes Go.WideShapes Go.ChangeAt Go.RowKit Go.Proofs.Ytgdpkkmjjmmimaa.P Go.Proofs.Ytgdpkkmjjmmimaa.Opn Go.Proofs.YtgdpkkmjjmmimaaW.PrintWords
open Go.ChangeMaps (open_string shut_string)
set_option linter.unusedVariables false
theorem own : ownKnob Try.prog.godebug = none := by kernel_rfl
theorem laidOut : laidOutB Try.prog = true := by kernel_rfl
set_option maxRecDepth 100000 in
theorem lifted (os : Os) (started : os.Started) (H : Type) (enc : TypeId × Value → H) :
    ReturnsInHanded {} Try.checked os 7 .any (Rows.fnExactLastArrivalSpec.pre6 enc Try.prog Try.f7 Rows.fnExactLastArrivalRow.domain false) (Rows.fnExactLastArrivalSpec.post enc Try.prog Try.f7 false true false false) := by
  refine returnsInHanded_of_change_sized (C := Try.checked) own started (by kernel_rfl) Try.func7
    (ChangeSpec.witness6 (enc := enc) (C := Try.checked) false ⟨#[], #[.slice none 0 0, .slice none 0 0], []⟩ 8 (by kernel_rfl) (by kernel_rfl) (by kernel_rfl) (by kernel_rfl)) ?_
  intro W base args ds gs before hval0 hW hcnd hsz0 _
  have hval : ∀ (j : Nat) t v, Try.f7.params[j]? = some t → args[j]? = some v → Value.okWide Try.prog W .any base t v := hval0
  have hW' := hW
  obtain ⟨p, q, hA0, hV, rfl, hfz, hnd⟩ := hW
  have hA : DataW.TrodAll enc Try.prog W 0 (fun _ => true) true Try.f7.params.toList args.toList ds p := hA0
  rw [Try.params7] at hA hval
  obtain ⟨v0, vs0, d0, ds0, p0, q0, hargs, rfl, rfl, h0, r0⟩ := trodAll_cons hA
  obtain ⟨v1, vs1, d1, ds1, p1, q1, rfl, rfl, rfl, h1, r1⟩ := trodAll_cons r0
  obtain ⟨rfl, rfl, rfl⟩ := trodAll_nil r1
  obtain rfl : args = #[v0, v1] := by cases args; simp_all
  obtain ⟨rfl, rfl⟩ := trodVars_none hV
  have k0 := h0
  have lt0 : ∀ x ∈ p0, x.block < W.heap.size := by obtain ⟨m, hm⟩ := k0; exact DataW.trod_lt m _ _ _ hm
  obtain ⟨fuel0, hf0⟩ := h0
  obtain ⟨y0, hK0, hw0⟩ := opens30.out enc W fuel0 _ _ hf0
  obtain ⟨a0, len0, cap0, rfl⟩ := okWide_slice Try.underlying30 (hval 0 30 v0 rfl rfl)
  obtain ⟨A0, c0, hcs0, hc0, hr0⟩ := hK0
  simp only [Value.cells, List.cons.injEq, Value.slice.injEq, and_true] at hcs0
  obtain ⟨rfl, rfl, rfl⟩ := hcs0
  have k1 := h1
  have lt1 : ∀ x ∈ p1, x.block < W.heap.size := by obtain ⟨m, hm⟩ := k1; exact DataW.trod_lt m _ _ _ hm
  obtain ⟨fuel1, hf1⟩ := h1
  obtain ⟨y1, hK1, hw1⟩ := opens22.out enc W fuel1 _ _ hf1
  obtain ⟨a1, len1, cap1, rfl⟩ := okWide_slice Try.underlying22 (hval 1 22 v1 rfl rfl)
  obtain ⟨A1, c1, hcs1, hc1, hr1⟩ := hK1
  simp only [Value.cells, List.cons.injEq, Value.slice.injEq, and_true] at hcs1
  obtain ⟨rfl, rfl, rfl⟩ := hcs1
  obtain ⟨k_, hP⟩ := Pure.FnExactLastArrival y0 y1 hw0 hw1
  refine (laws_FnExactLastArrival.calls k_ _ _ y0 _ _ y1 true W hr0 hc0 hr1 hc1 hP).mono fun e W' he => ?_
  obtain ⟨rfl, hd⟩ := he
  have bel : Below W.heap.size W W' := hd
  exact ⟨_, rfl, _, _, _, [], _, [], hW', trodAll_mk1 (shut_bool Try.underlying4 _), (trodAll_cons_mk (Below.trod laidOut (by kernel_rfl) (of_decide_eq_true (by kernel_rfl)) k0 bel lt0) (trodAll_cons_mk (Below.trod laidOut (by kernel_rfl) (of_decide_eq_true (by kernel_rfl)) k1 bel lt1) trodAll_mk0)), rfl, bel.frame _, fun h => by cases h⟩
theorem over : Rows.fnExactLastArrivalRow.holds Try.pinned (OpenSpec.ofChange Rows.fnExactLastArrivalSpec) :=
  OpenClaim.holds_of_wide 7 Try.f7 rfl rfl rfl rfl rfl rfl rfl ⟨rfl, rfl, rfl, rfl, rfl⟩ rfl rfl rfl rfl rfl (by kernel_rfl) Try.func7 (by kernel_rfl)
    (of_decide_eq_true (by kernel_rfl)) (by unfold Func.isWrapper; first | (rw [if_pos (by decide +kernel)]; kernel_rfl) | (rw [if_neg (by decide +kernel)]; exact ⟨rfl, rfl⟩))
    (fun os started H enc _ => lifted os started H enc)
end Go.Proofs.Ytgdpkkmjjmmimaa.fnExactLastArrival
namespace Go.Proofs.Ytgdpkkmjjmmimaa
/-- The row. -/
theorem fnExactLastArrival_holds : Rows.FnExactLastArrivalSaid := fnExactLastArrival.over
#print axioms fnExactLastArrival_holds
end Go.Proofs.Ytgdpkkmjjmmimaa
