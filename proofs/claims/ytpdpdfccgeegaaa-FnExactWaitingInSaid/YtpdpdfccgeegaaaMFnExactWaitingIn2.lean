/- FnExactWaitingIn: for every input that can be read, the law returns true and its arguments read as before. Conditions: none beyond the row's own. (Part 3 of 3: contracts made by pw.py with the kit's print, contracts by hand, plain laws, the row.) -/
import Derived.Test.YtpdpdfccgeegaaaMFnExactWaitingIn1
import Derived.Test.YtpdpdfccgeegaaaWWords
import Derived.ChangeArms
import Derived.ChangeSame
import Derived.ChangeSlices
import Derived.WideShapes
import Derived.ProofKit
import Derived.KernelRfl
import Derived.Test.YtpdpdfccgeegaaaRows
import Derived.WalkKit
import Derived.OpenShut
import Derived.ShutString
import Derived.ChangeOld
import Derived.Below
import Derived.SizedLaws
import Derived.Carry

namespace Go.Proofs.Ytpdpdfccgeegaaa.P
open Go.RowKit Go.Proofs.YtpdpdfccgeegaaaW.PrintWords Go.Proofs.YtpdpdfccgeegaaaW.PrintLast Go.Proofs.YtpdpdfccgeegaaaW.PrintMore
attribute [local go_sem] max2_int min2_int max_two min_two max_three min_three max_four min_four
set_option linter.unusedVariables false
set_option linter.unusedSimpArgs false

/-! ### laws_FnExactWaitingIn: function 4 -/
def laws_FnExactWaitingIn.j0 : Nat → Bool → List Int → List (List Int) → List Int → List Int → Int → List Int → List (List Int) → List Int → List Int → Int → Option (Bool)
  | 0, _, _, _, _, _, _, _, _, _, _, _ => none
  | k + 1, x34, x102000, x102001, x102002, x102003, x102004, x132000, x132001, x132002, x132003, x132004 => if x34 = true then (some false) else ((laws_toTurns.f k x102000 x102001 x102002 x102003 x102004).bind fun bt134 => ((laws_eqTurns.f k x132000 x132001 x132002 x132003 x132004 bt134.1 bt134.2.1 bt134.2.2.1 bt134.2.2.2.1 bt134.2.2.2.2).bind fun t147 => (if t147 = true then (some true) else (some false))))
def laws_FnExactWaitingIn.f (k : Nat) (l0_0 : List Int) (l0_1 : List (List Int)) (l0_2 : List Int) (l0_3 : List Int) (a0_4 : Int) : Option (Bool) := (laws_szTurns.f k l0_0 l0_1 l0_2 l0_3 a0_4 1048576).bind fun t102 => (if t102 < 0 then (some true) else ((laws_toTurns.f k l0_0 l0_1 l0_2 l0_3 a0_4).bind fun bt103 => ((spec_WaitingIn.f k bt103.1 bt103.2.1 bt103.2.2.1 bt103.2.2.2.1 bt103.2.2.2.2).bind fun bt116 => ((laws_toTurns.f k l0_0 l0_1 l0_2 l0_3 a0_4).bind fun bt118 => ((impl_WaitingIn.f k bt118.1 bt118.2.1 bt118.2.2.1 bt118.2.2.2.1 bt118.2.2.2.2).bind fun bt132 => (if bt132.1 = bt116.1 then (laws_FnExactWaitingIn.j0 k (bt132.2 != bt116.2) l0_0 l0_1 l0_2 l0_3 a0_4 bt118.1 bt118.2.1 bt118.2.2.1 bt118.2.2.2.1 bt118.2.2.2.2) else (laws_FnExactWaitingIn.j0 k true l0_0 l0_1 l0_2 l0_3 a0_4 bt118.1 bt118.2.1 bt118.2.2.1 bt118.2.2.2.1 bt118.2.2.2.2)))))))
theorem laws_FnExactWaitingIn.mono_l : ∀ k, (∀ y0 y1 y2 y3 y4 y5 y6 y7 y8 y9 y10, LeO (laws_FnExactWaitingIn.j0 k y0 y1 y2 y3 y4 y5 y6 y7 y8 y9 y10) (laws_FnExactWaitingIn.j0 (k + 1) y0 y1 y2 y3 y4 y5 y6 y7 y8 y9 y10))
  | 0 => fun _ _ _ _ _ _ _ _ _ _ _ r h => by simp [laws_FnExactWaitingIn.j0] at h
  | k + 1 => by
    have ih0 := laws_FnExactWaitingIn.mono_l k
    · intro y0 y1 y2 y3 y4 y5 y6 y7 y8 y9 y10
      unfold laws_FnExactWaitingIn.j0
      repeat' first
      | (with_reducible exact ih0 _ _ _ _ _ _ _ _ _ _ _)
      | (with_reducible exact impl_WaitingIn.mono _ _ _ _ _ _)
      | (with_reducible exact laws_eqTurns.mono _ _ _ _ _ _ _ _ _ _ _)
      | (with_reducible exact laws_szTurns.mono _ _ _ _ _ _ _)
      | (with_reducible exact laws_toTurns.mono _ _ _ _ _ _)
      | (with_reducible exact spec_WaitingIn.mono _ _ _ _ _ _)
      | (with_reducible exact LeO.refl _)
      | (with_reducible exact LeO.none _)
      | (with_reducible refine LeO.ite ?_ ?_)
      | (with_reducible refine LeO.bind ?_ (fun _ => ?_))
      | exact ih0 _ _ _ _ _ _ _ _ _ _ _
      | exact impl_WaitingIn.mono _ _ _ _ _ _
      | exact laws_eqTurns.mono _ _ _ _ _ _ _ _ _ _ _
      | exact laws_szTurns.mono _ _ _ _ _ _ _
      | exact laws_toTurns.mono _ _ _ _ _ _
      | exact spec_WaitingIn.mono _ _ _ _ _ _
      | exact LeO.none _
      | refine LeO.ite ?_ ?_
      | refine LeO.bind ?_ (fun _ => ?_)
theorem laws_FnExactWaitingIn.mono : ∀ a0 a1 a2 a3 a4 k, LeO (laws_FnExactWaitingIn.f k a0 a1 a2 a3 a4) (laws_FnExactWaitingIn.f (k + 1) a0 a1 a2 a3 a4) := by
  intro a0 a1 a2 a3 a4 k
  have ih0 := laws_FnExactWaitingIn.mono_l k
  unfold laws_FnExactWaitingIn.f
  repeat' first
      | (with_reducible exact ih0 _ _ _ _ _ _ _ _ _ _ _)
      | (with_reducible exact impl_WaitingIn.mono _ _ _ _ _ _)
      | (with_reducible exact laws_eqTurns.mono _ _ _ _ _ _ _ _ _ _ _)
      | (with_reducible exact laws_szTurns.mono _ _ _ _ _ _ _)
      | (with_reducible exact laws_toTurns.mono _ _ _ _ _ _)
      | (with_reducible exact spec_WaitingIn.mono _ _ _ _ _ _)
      | (with_reducible exact LeO.refl _)
      | (with_reducible exact LeO.none _)
      | (with_reducible refine LeO.ite ?_ ?_)
      | (with_reducible refine LeO.bind ?_ (fun _ => ?_))
      | exact ih0 _ _ _ _ _ _ _ _ _ _ _
      | exact impl_WaitingIn.mono _ _ _ _ _ _
      | exact laws_eqTurns.mono _ _ _ _ _ _ _ _ _ _ _
      | exact laws_szTurns.mono _ _ _ _ _ _ _
      | exact laws_toTurns.mono _ _ _ _ _ _
      | exact spec_WaitingIn.mono _ _ _ _ _ _
      | exact LeO.none _
      | refine LeO.ite ?_ ?_
      | refine LeO.bind ?_ (fun _ => ?_)
set_option maxHeartbeats 8000000 in
set_option maxRecDepth 100000 in
theorem laws_FnExactWaitingIn.calls (k : Nat) (A0_0 : Option Addr) (c0_0 : Nat) (l0_0 : List Int) (A0_1 : Option Addr) (c0_1 : Nat) (l0_1 : List (List Int)) (A0_2 : Option Addr) (c0_2 : Nat) (l0_2 : List Int) (A0_3 : Option Addr) (c0_3 : Nat) (l0_3 : List Int) (a0_4 : Int) (r : Bool) (w : World) (hr0_0 : Kd.C (Kd.int .i64) w A0_0 l0_0.length l0_0) (hc0_0 : l0_0.length ≤ c0_0) (hr0_1 : Kd.C (Kd.slice 3 (Kd.int .i64)) w A0_1 l0_1.length l0_1) (hc0_1 : l0_1.length ≤ c0_1) (hr0_2 : Kd.C (Kd.int .i64) w A0_2 l0_2.length l0_2) (hc0_2 : l0_2.length ≤ c0_2) (hr0_3 : Kd.C (Kd.int .i64) w A0_3 l0_3.length l0_3) (hc0_3 : l0_3.length ≤ c0_3) (h : laws_FnExactWaitingIn.f k l0_0 l0_1 l0_2 l0_3 a0_4 = some r) :
    Calls Try.prog 4 #[.agg #[.slice A0_0 l0_0.length c0_0, .slice A0_1 l0_1.length c0_1, .slice A0_2 l0_2.length c0_2, .slice A0_3 l0_3.length c0_3, .int .i64 a0_4]] w fun e w' => e = .returned (.bool r) ∧ Below w.heap.size w w' := by
  have hu34 := Try.underlying34
  have hu25 := Try.underlying25
  have HR0_0 := Aside0.mk hr0_0
  have HC0_0 := Aside0.mk hc0_0
  clear hr0_0 hc0_0
  have HR0_1 := Aside0.mk hr0_1
  have HC0_1 := Aside0.mk hc0_1
  clear hr0_1 hc0_1
  have HR0_2 := Aside0.mk hr0_2
  have HC0_2 := Aside0.mk hc0_2
  clear hr0_2 hc0_2
  have HR0_3 := Aside0.mk hr0_3
  have HC0_3 := Aside0.mk hc0_3
  clear hr0_3 hc0_3
  have HB := Aside0.mk (Below.refl w.heap.size w)
  have H : ((laws_szTurns.f k l0_0 l0_1 l0_2 l0_3 a0_4 1048576).bind fun t102 => (if t102 < 0 then (some true) else ((laws_toTurns.f k l0_0 l0_1 l0_2 l0_3 a0_4).bind fun bt103 => ((spec_WaitingIn.f k bt103.1 bt103.2.1 bt103.2.2.1 bt103.2.2.2.1 bt103.2.2.2.2).bind fun bt116 => ((laws_toTurns.f k l0_0 l0_1 l0_2 l0_3 a0_4).bind fun bt118 => ((impl_WaitingIn.f k bt118.1 bt118.2.1 bt118.2.2.1 bt118.2.2.2.1 bt118.2.2.2.2).bind fun bt132 => (if bt132.1 = bt116.1 then (laws_FnExactWaitingIn.j0 k (bt132.2 != bt116.2) l0_0 l0_1 l0_2 l0_3 a0_4 bt118.1 bt118.2.1 bt118.2.2.1 bt118.2.2.2.1 bt118.2.2.2.2) else (laws_FnExactWaitingIn.j0 k true l0_0 l0_1 l0_2 l0_3 a0_4 bt118.1 bt118.2.1 bt118.2.2.1 bt118.2.2.2.1 bt118.2.2.2.2)))))))) = some r := h
  clear h
  replace H := Option.bind_eq_some_iff.mp H
  obtain ⟨t102, A20, H⟩ := H
  replace H : (if t102 < 0 then (some true) else ((laws_toTurns.f k l0_0 l0_1 l0_2 l0_3 a0_4).bind fun bt103 => ((spec_WaitingIn.f k bt103.1 bt103.2.1 bt103.2.2.1 bt103.2.2.2.1 bt103.2.2.2.2).bind fun bt116 => ((laws_toTurns.f k l0_0 l0_1 l0_2 l0_3 a0_4).bind fun bt118 => ((impl_WaitingIn.f k bt118.1 bt118.2.1 bt118.2.2.1 bt118.2.2.2.1 bt118.2.2.2.2).bind fun bt132 => (if bt132.1 = bt116.1 then (laws_FnExactWaitingIn.j0 k (bt132.2 != bt116.2) l0_0 l0_1 l0_2 l0_3 a0_4 bt118.1 bt118.2.1 bt118.2.2.1 bt118.2.2.2.1 bt118.2.2.2.2) else (laws_FnExactWaitingIn.j0 k true l0_0 l0_1 l0_2 l0_3 a0_4 bt118.1 bt118.2.1 bt118.2.2.1 bt118.2.2.2.1 bt118.2.2.2.2))))))) = some r := H
  have A2 := Aside0.mk A20
  clear A20
  by_cases c3 : t102 < 0
  · rw [if_pos c3] at H
    have c3b0 : decide (t102 < 0) = true := decide_eq_true c3
    clear c3
    obtain rfl := Option.some.inj H
    go_enter Try.func4, Try.ntmps4
    go_wp2_with (first | ((with_reducible refine gate_dst (N := 1) rfl ?_); refine box_event ?hg (N := 1) ?hd (cs := #[.slice A0_0 l0_0.length c0_0, .slice A0_1 l0_1.length c0_1, .slice A0_2 l0_2.length c0_2, .slice A0_3 l0_3.length c0_3, .int .i64 a0_4]) (t := 34) ?hr ?_; (case hd => rfl); (case hg => rfl); (case hr => first | (go_simp; done) | (go_simp; rfl)); intro gb101 hg w4 hbox hb; have n0_ := Aside0.mk (below_step (by repeat (first | (with_reducible first | exact HB.out | apply below_alloc | apply pw_below_drewN | apply below_drew1) | exact HB.out)) hb); have n1_ := Aside0.mk (hbox); have n2_ := Aside0.mk ((by rw [hg]; exact (below_size (by repeat (first | (with_reducible first | exact HB.out | apply below_alloc | apply pw_below_drewN | apply below_drew1) | exact HB.out))) : w.heap.size ≤ gb101)); have n3_ := Aside0.mk ((by rw [hg]; exact (below_size (by repeat (first | (with_reducible first | exact HB.out | apply below_alloc | apply pw_below_drewN | apply below_drew1) | exact HB.out))) : w.heap.size ≤ gb101)); clear HB; have HB := n0_; have BK101 := n1_; have GW101 := n2_; have GE101 := n3_; clear n0_ n1_ n2_ n3_; clear hb hbox hg; have hcz5_0 : w4.cell? ⟨gb101, 0, none⟩ = some (.slice A0_0 l0_0.length c0_0) := (blk_cell BK101.out 0).trans rfl; have hcz5_1 : w4.cell? ⟨gb101, 1, none⟩ = some (.slice A0_1 l0_1.length c0_1) := (blk_cell BK101.out 1).trans rfl; have hcz5_2 : w4.cell? ⟨gb101, 2, none⟩ = some (.slice A0_2 l0_2.length c0_2) := (blk_cell BK101.out 2).trans rfl; have hcz5_3 : w4.cell? ⟨gb101, 3, none⟩ = some (.slice A0_3 l0_3.length c0_3) := (blk_cell BK101.out 3).trans rfl; have hcz5_4 : w4.cell? ⟨gb101, 4, none⟩ = some (.int .i64 a0_4) := (blk_cell BK101.out 4).trans rfl; have hfz5_0 := blk_frozen BK101.out 0; have hfz5_1 := blk_frozen BK101.out 1; have hfz5_2 := blk_frozen BK101.out 2; have hfz5_3 := blk_frozen BK101.out 3; have hfz5_4 := blk_frozen BK101.out 4) | ((with_reducible refine gate_callee (f := 13) rfl ?_); refine goesL_ (some 11) rfl rfl Try.func13 (by kernel_rfl) rfl #[.agg #[.slice A0_0 l0_0.length c0_0, .slice A0_1 l0_1.length c0_1, .slice A0_2 l0_2.length c0_2, .slice A0_3 l0_3.length c0_3, .int .i64 a0_4], .int .i64 1048576] rfl (by (try simp only [List.map_toArray, List.map_cons, List.map_nil]); first | done | rfl | (simp only [List.length_drop, List.length_take]; rfl)) ?_; (with_reducible refine (laws_szTurns.calls k _ _ l0_0 _ _ l0_1 _ _ l0_2 _ _ l0_3 a0_4 1048576 t102 _ ?side1 ?side2 ?side3 ?side4 ?side5 ?side6 ?side7 ?side8 A2.out).mono ?_); (case side1 => repeat (first | exact (Kd.C_below HR0_0.out HB.out) | (with_reducible refine Kd.C_alloc ?_ _) | (with_reducible refine Kd.C_drewN ?_ _) | (with_reducible refine Kd.C_drew ?_))); (case side2 => exact HC0_0.out); (case side3 => repeat (first | exact (Kd.C_below HR0_1.out HB.out) | (with_reducible refine Kd.C_alloc ?_ _) | (with_reducible refine Kd.C_drewN ?_ _) | (with_reducible refine Kd.C_drew ?_))); (case side4 => exact HC0_1.out); (case side5 => repeat (first | exact (Kd.C_below HR0_2.out HB.out) | (with_reducible refine Kd.C_alloc ?_ _) | (with_reducible refine Kd.C_drewN ?_ _) | (with_reducible refine Kd.C_drew ?_))); (case side6 => exact HC0_2.out); (case side7 => repeat (first | exact (Kd.C_below HR0_3.out HB.out) | (with_reducible refine Kd.C_alloc ?_ _) | (with_reducible refine Kd.C_drewN ?_ _) | (with_reducible refine Kd.C_drew ?_))); (case side8 => exact HC0_3.out); rintro e w6 ⟨rfl, hb⟩; refine ⟨_, rfl, ?_⟩; have n0_ := Aside0.mk (blk_below (g := gb101) (o := .cells #[.slice A0_0 l0_0.length c0_0, .slice A0_1 l0_1.length c0_1, .slice A0_2 l0_2.length c0_2, .slice A0_3 l0_3.length c0_3, .int .i64 a0_4] 34 (0, 0)) (by (with_reducible repeat (first | refine blk_drewN ?_ _ | refine blk_drew ?_ | refine blk_alloc ?_ _)); exact BK101.out) hb); have n1_ := Aside0.mk (below_step (by repeat (first | (with_reducible first | exact HB.out | apply below_alloc | apply pw_below_drewN | apply below_drew1 | refine below_set ?_ GE101.out) | exact HB.out)) hb); clear BK101; clear HB; have BK101 := n0_; have HB := n1_; clear n0_ n1_; (try clear hb); (try clear hb2); (try clear hk); (try clear hi)))
    go_ret
    exact ⟨by first | rfl | (simp [errW_none, errW_some] <;> rfl) | (simp [*, errW_none, errW_some] <;> rfl), by repeat (first | (with_reducible first | exact HB.out | apply below_alloc | apply pw_below_drewN | apply below_drew1 | refine below_set ?_ GE101.out) | exact HB.out)⟩
  · rw [if_neg c3] at H
    have c3b0 : decide (t102 < 0) = false := decide_eq_false c3
    clear c3
    replace H := Option.bind_eq_some_iff.mp H
    obtain ⟨⟨t103, t106, t109, t112, t115⟩, A70, H⟩ := H
    replace H : ((spec_WaitingIn.f k t103 t106 t109 t112 t115).bind fun bt116 => ((laws_toTurns.f k l0_0 l0_1 l0_2 l0_3 a0_4).bind fun bt118 => ((impl_WaitingIn.f k bt118.1 bt118.2.1 bt118.2.2.1 bt118.2.2.2.1 bt118.2.2.2.2).bind fun bt132 => (if bt132.1 = bt116.1 then (laws_FnExactWaitingIn.j0 k (bt132.2 != bt116.2) l0_0 l0_1 l0_2 l0_3 a0_4 bt118.1 bt118.2.1 bt118.2.2.1 bt118.2.2.2.1 bt118.2.2.2.2) else (laws_FnExactWaitingIn.j0 k true l0_0 l0_1 l0_2 l0_3 a0_4 bt118.1 bt118.2.1 bt118.2.2.1 bt118.2.2.2.1 bt118.2.2.2.2))))) = some r := H
    have A7 := Aside0.mk A70
    clear A70
    replace H := Option.bind_eq_some_iff.mp H
    obtain ⟨⟨t116, t117⟩, A80, H⟩ := H
    replace H : ((laws_toTurns.f k l0_0 l0_1 l0_2 l0_3 a0_4).bind fun bt118 => ((impl_WaitingIn.f k bt118.1 bt118.2.1 bt118.2.2.1 bt118.2.2.2.1 bt118.2.2.2.2).bind fun bt132 => (if bt132.1 = t116 then (laws_FnExactWaitingIn.j0 k (bt132.2 != t117) l0_0 l0_1 l0_2 l0_3 a0_4 bt118.1 bt118.2.1 bt118.2.2.1 bt118.2.2.2.1 bt118.2.2.2.2) else (laws_FnExactWaitingIn.j0 k true l0_0 l0_1 l0_2 l0_3 a0_4 bt118.1 bt118.2.1 bt118.2.2.1 bt118.2.2.2.1 bt118.2.2.2.2)))) = some r := H
    have A8 := Aside0.mk A80
    clear A80
    replace H := Option.bind_eq_some_iff.mp H
    obtain ⟨⟨t118, t121, t124, t127, t130⟩, A90, H⟩ := H
    replace H : ((impl_WaitingIn.f k t118 t121 t124 t127 t130).bind fun bt132 => (if bt132.1 = t116 then (laws_FnExactWaitingIn.j0 k (bt132.2 != t117) l0_0 l0_1 l0_2 l0_3 a0_4 t118 t121 t124 t127 t130) else (laws_FnExactWaitingIn.j0 k true l0_0 l0_1 l0_2 l0_3 a0_4 t118 t121 t124 t127 t130))) = some r := H
    have A9 := Aside0.mk A90
    clear A90
    replace H := Option.bind_eq_some_iff.mp H
    obtain ⟨⟨t132, t133⟩, A100, H⟩ := H
    replace H : (if t132 = t116 then (laws_FnExactWaitingIn.j0 k (t133 != t117) l0_0 l0_1 l0_2 l0_3 a0_4 t118 t121 t124 t127 t130) else (laws_FnExactWaitingIn.j0 k true l0_0 l0_1 l0_2 l0_3 a0_4 t118 t121 t124 t127 t130)) = some r := H
    have A10 := Aside0.mk A100
    clear A100
    have HC11 := Aside0.mk H
    clear H
    go_enter Try.func4, Try.ntmps4
    go_upto_region 8 with (first | ((with_reducible refine gate_dst (N := 1) rfl ?_); refine box_event ?hg (N := 1) ?hd (cs := #[.slice A0_0 l0_0.length c0_0, .slice A0_1 l0_1.length c0_1, .slice A0_2 l0_2.length c0_2, .slice A0_3 l0_3.length c0_3, .int .i64 a0_4]) (t := 34) ?hr ?_; (case hd => rfl); (case hg => rfl); (case hr => first | (go_simp; done) | (go_simp; rfl)); intro gb101 hg w12 hbox hb; have n0_ := Aside0.mk (below_step (by repeat (first | (with_reducible first | exact HB.out | apply below_alloc | apply pw_below_drewN | apply below_drew1) | exact HB.out)) hb); have n1_ := Aside0.mk (hbox); have n2_ := Aside0.mk ((by rw [hg]; exact (below_size (by repeat (first | (with_reducible first | exact HB.out | apply below_alloc | apply pw_below_drewN | apply below_drew1) | exact HB.out))) : w.heap.size ≤ gb101)); have n3_ := Aside0.mk ((by rw [hg]; exact (below_size (by repeat (first | (with_reducible first | exact HB.out | apply below_alloc | apply pw_below_drewN | apply below_drew1) | exact HB.out))) : w.heap.size ≤ gb101)); clear HB; have HB := n0_; have BK101 := n1_; have GW101 := n2_; have GE101 := n3_; clear n0_ n1_ n2_ n3_; clear hb hbox hg; have hcz13_0 : w12.cell? ⟨gb101, 0, none⟩ = some (.slice A0_0 l0_0.length c0_0) := (blk_cell BK101.out 0).trans rfl; have hcz13_1 : w12.cell? ⟨gb101, 1, none⟩ = some (.slice A0_1 l0_1.length c0_1) := (blk_cell BK101.out 1).trans rfl; have hcz13_2 : w12.cell? ⟨gb101, 2, none⟩ = some (.slice A0_2 l0_2.length c0_2) := (blk_cell BK101.out 2).trans rfl; have hcz13_3 : w12.cell? ⟨gb101, 3, none⟩ = some (.slice A0_3 l0_3.length c0_3) := (blk_cell BK101.out 3).trans rfl; have hcz13_4 : w12.cell? ⟨gb101, 4, none⟩ = some (.int .i64 a0_4) := (blk_cell BK101.out 4).trans rfl; have hfz13_0 := blk_frozen BK101.out 0; have hfz13_1 := blk_frozen BK101.out 1; have hfz13_2 := blk_frozen BK101.out 2; have hfz13_3 := blk_frozen BK101.out 3; have hfz13_4 := blk_frozen BK101.out 4) | ((with_reducible refine gate_callee (f := 13) rfl ?_); refine goesL_ (some 11) rfl rfl Try.func13 (by kernel_rfl) rfl #[.agg #[.slice A0_0 l0_0.length c0_0, .slice A0_1 l0_1.length c0_1, .slice A0_2 l0_2.length c0_2, .slice A0_3 l0_3.length c0_3, .int .i64 a0_4], .int .i64 1048576] rfl (by (try simp only [List.map_toArray, List.map_cons, List.map_nil]); first | done | rfl | (simp only [List.length_drop, List.length_take]; rfl)) ?_; (with_reducible refine (laws_szTurns.calls k _ _ l0_0 _ _ l0_1 _ _ l0_2 _ _ l0_3 a0_4 1048576 t102 _ ?side1 ?side2 ?side3 ?side4 ?side5 ?side6 ?side7 ?side8 A2.out).mono ?_); (case side1 => repeat (first | exact (Kd.C_below HR0_0.out HB.out) | (with_reducible refine Kd.C_alloc ?_ _) | (with_reducible refine Kd.C_drewN ?_ _) | (with_reducible refine Kd.C_drew ?_))); (case side2 => exact HC0_0.out); (case side3 => repeat (first | exact (Kd.C_below HR0_1.out HB.out) | (with_reducible refine Kd.C_alloc ?_ _) | (with_reducible refine Kd.C_drewN ?_ _) | (with_reducible refine Kd.C_drew ?_))); (case side4 => exact HC0_1.out); (case side5 => repeat (first | exact (Kd.C_below HR0_2.out HB.out) | (with_reducible refine Kd.C_alloc ?_ _) | (with_reducible refine Kd.C_drewN ?_ _) | (with_reducible refine Kd.C_drew ?_))); (case side6 => exact HC0_2.out); (case side7 => repeat (first | exact (Kd.C_below HR0_3.out HB.out) | (with_reducible refine Kd.C_alloc ?_ _) | (with_reducible refine Kd.C_drewN ?_ _) | (with_reducible refine Kd.C_drew ?_))); (case side8 => exact HC0_3.out); rintro e w14 ⟨rfl, hb⟩; refine ⟨_, rfl, ?_⟩; have n0_ := Aside0.mk (blk_below (g := gb101) (o := .cells #[.slice A0_0 l0_0.length c0_0, .slice A0_1 l0_1.length c0_1, .slice A0_2 l0_2.length c0_2, .slice A0_3 l0_3.length c0_3, .int .i64 a0_4] 34 (0, 0)) (by (with_reducible repeat (first | refine blk_drewN ?_ _ | refine blk_drew ?_ | refine blk_alloc ?_ _)); exact BK101.out) hb); have n1_ := Aside0.mk (below_step (by repeat (first | (with_reducible first | exact HB.out | apply below_alloc | apply pw_below_drewN | apply below_drew1 | refine below_set ?_ GE101.out) | exact HB.out)) hb); clear BK101; clear HB; have BK101 := n0_; have HB := n1_; clear n0_ n1_; (try clear hb); (try clear hb2); (try clear hk); (try clear hi); have hcz15_0 : w14.cell? ⟨gb101, 0, none⟩ = some (.slice A0_0 l0_0.length c0_0) := (blk_cell BK101.out 0).trans rfl; have hcz15_1 : w14.cell? ⟨gb101, 1, none⟩ = some (.slice A0_1 l0_1.length c0_1) := (blk_cell BK101.out 1).trans rfl; have hcz15_2 : w14.cell? ⟨gb101, 2, none⟩ = some (.slice A0_2 l0_2.length c0_2) := (blk_cell BK101.out 2).trans rfl; have hcz15_3 : w14.cell? ⟨gb101, 3, none⟩ = some (.slice A0_3 l0_3.length c0_3) := (blk_cell BK101.out 3).trans rfl; have hcz15_4 : w14.cell? ⟨gb101, 4, none⟩ = some (.int .i64 a0_4) := (blk_cell BK101.out 4).trans rfl; have hfz15_0 := blk_frozen BK101.out 0; have hfz15_1 := blk_frozen BK101.out 1; have hfz15_2 := blk_frozen BK101.out 2; have hfz15_3 := blk_frozen BK101.out 3; have hfz15_4 := blk_frozen BK101.out 4) | ((with_reducible refine gate_callee (f := 15) rfl ?_); refine goesL_ (some 16) rfl rfl Try.func15 (by kernel_rfl) rfl #[.agg #[.slice A0_0 l0_0.length c0_0, .slice A0_1 l0_1.length c0_1, .slice A0_2 l0_2.length c0_2, .slice A0_3 l0_3.length c0_3, .int .i64 a0_4]] rfl (by (try simp only [List.map_toArray, List.map_cons, List.map_nil]); first | done | rfl | (simp only [List.length_drop, List.length_take]; rfl)) ?_; (with_reducible refine (laws_toTurns.calls k _ _ l0_0 _ _ l0_1 _ _ l0_2 _ _ l0_3 a0_4 t103 t106 t109 t112 t115 _ ?side1 ?side2 ?side3 ?side4 ?side5 ?side6 ?side7 ?side8 A7.out).mono ?_); (case side1 => repeat (first | exact (Kd.C_below HR0_0.out HB.out) | (with_reducible refine Kd.C_alloc ?_ _) | (with_reducible refine Kd.C_drewN ?_ _) | (with_reducible refine Kd.C_drew ?_))); (case side2 => exact HC0_0.out); (case side3 => repeat (first | exact (Kd.C_below HR0_1.out HB.out) | (with_reducible refine Kd.C_alloc ?_ _) | (with_reducible refine Kd.C_drewN ?_ _) | (with_reducible refine Kd.C_drew ?_))); (case side4 => exact HC0_1.out); (case side5 => repeat (first | exact (Kd.C_below HR0_2.out HB.out) | (with_reducible refine Kd.C_alloc ?_ _) | (with_reducible refine Kd.C_drewN ?_ _) | (with_reducible refine Kd.C_drew ?_))); (case side6 => exact HC0_2.out); (case side7 => repeat (first | exact (Kd.C_below HR0_3.out HB.out) | (with_reducible refine Kd.C_alloc ?_ _) | (with_reducible refine Kd.C_drewN ?_ _) | (with_reducible refine Kd.C_drew ?_))); (case side8 => exact HC0_3.out); rintro e w16 ⟨v104, v107, v110, v113, rfl, ho0, ho1, ho2, ho3, hb⟩; refine ⟨_, rfl, ?_⟩; have n0_ := Aside0.mk (Kd.R_lower ho0 (below_size (by repeat (first | (with_reducible first | exact HB.out | apply below_alloc | apply pw_below_drewN | apply below_drew1 | refine below_set ?_ GE101.out) | exact HB.out)))); have n1_ := Aside0.mk (Kd.S_lower ho1 (below_size (by repeat (first | (with_reducible first | exact HB.out | apply below_alloc | apply pw_below_drewN | apply below_drew1 | refine below_set ?_ GE101.out) | exact HB.out)))); have n2_ := Aside0.mk (Kd.R_lower ho2 (below_size (by repeat (first | (with_reducible first | exact HB.out | apply below_alloc | apply pw_below_drewN | apply below_drew1 | refine below_set ?_ GE101.out) | exact HB.out)))); have n3_ := Aside0.mk (Kd.R_lower ho3 (below_size (by repeat (first | (with_reducible first | exact HB.out | apply below_alloc | apply pw_below_drewN | apply below_drew1 | refine below_set ?_ GE101.out) | exact HB.out)))); have n4_ := Aside0.mk (blk_below (g := gb101) (o := .cells #[.slice A0_0 l0_0.length c0_0, .slice A0_1 l0_1.length c0_1, .slice A0_2 l0_2.length c0_2, .slice A0_3 l0_3.length c0_3, .int .i64 a0_4] 34 (0, 0)) (by (with_reducible repeat (first | refine blk_drewN ?_ _ | refine blk_drew ?_ | refine blk_alloc ?_ _)); exact BK101.out) hb); have n5_ := Aside0.mk (below_step (by repeat (first | (with_reducible first | exact HB.out | apply below_alloc | apply pw_below_drewN | apply below_drew1 | refine below_set ?_ GE101.out) | exact HB.out)) hb); clear BK101; clear HB; have HO105 := n0_; have HO108 := n1_; have HO111 := n2_; have HO114 := n3_; have BK101 := n4_; have HB := n5_; clear n0_ n1_ n2_ n3_ n4_ n5_; (try clear hb); (try clear hb2); (try clear hk); (try clear hi); (try clear ho0); (try clear ho1); (try clear ho2); (try clear ho3); obtain ⟨Ao17, co17, eo17⟩ := Kd.R_slice HO105.out; subst eo17; obtain ⟨Ao18, co18, eo18⟩ := Kd.S_slice HO108.out; subst eo18; obtain ⟨Ao19, co19, eo19⟩ := Kd.R_slice HO111.out; subst eo19; obtain ⟨Ao20, co20, eo20⟩ := Kd.R_slice HO114.out; subst eo20) | ((with_reducible refine gate_callee (f := 14) rfl ?_); refine goesL_ (some 17) rfl rfl Try.func14 (by kernel_rfl) rfl #[.agg #[.slice Ao17 t103.length co17, .slice Ao18 t106.length co18, .slice Ao19 t109.length co19, .slice Ao20 t112.length co20, .int .i64 t115]] rfl (by (try simp only [List.map_toArray, List.map_cons, List.map_nil]); first | done | rfl | (simp only [List.length_drop, List.length_take]; rfl)) ?_; (with_reducible refine (spec_WaitingIn.calls k _ _ t103 _ _ t106 _ _ t109 _ _ t112 t115 t116 t117 _ ?side1 ?side2 ?side3 ?side4 ?side5 ?side6 ?side7 ?side8 A8.out).mono ?_); (case side1 => repeat (first | exact (Kd.R_reads' HO105.out).2.2 | (with_reducible refine Kd.C_alloc ?_ _) | (with_reducible refine Kd.C_drewN ?_ _) | (with_reducible refine Kd.C_drew ?_))); (case side2 => exact (Kd.R_reads' HO105.out).2.1); (case side3 => repeat (first | exact (Kd.S_reads' HO108.out).2.2 | (with_reducible refine Kd.C_alloc ?_ _) | (with_reducible refine Kd.C_drewN ?_ _) | (with_reducible refine Kd.C_drew ?_))); (case side4 => exact (Kd.S_reads' HO108.out).2.1); (case side5 => repeat (first | exact (Kd.R_reads' HO111.out).2.2 | (with_reducible refine Kd.C_alloc ?_ _) | (with_reducible refine Kd.C_drewN ?_ _) | (with_reducible refine Kd.C_drew ?_))); (case side6 => exact (Kd.R_reads' HO111.out).2.1); (case side7 => repeat (first | exact (Kd.R_reads' HO114.out).2.2 | (with_reducible refine Kd.C_alloc ?_ _) | (with_reducible refine Kd.C_drewN ?_ _) | (with_reducible refine Kd.C_drew ?_))); (case side8 => exact (Kd.R_reads' HO114.out).2.1); rintro e w21 ⟨rfl, hb⟩; refine ⟨_, rfl, ?_⟩; have n0_ := Aside0.mk (Kd.R_below (by (with_reducible repeat (first | apply Kd.R_alloc | apply Kd.R_drewN | apply Kd.R_drew)); exact HO105.out) hb); have n1_ := Aside0.mk (Kd.S_below (by (with_reducible repeat (first | apply Kd.S_alloc | apply Kd.S_drewN | apply Kd.S_drew)); exact HO108.out) hb); have n2_ := Aside0.mk (Kd.R_below (by (with_reducible repeat (first | apply Kd.R_alloc | apply Kd.R_drewN | apply Kd.R_drew)); exact HO111.out) hb); have n3_ := Aside0.mk (Kd.R_below (by (with_reducible repeat (first | apply Kd.R_alloc | apply Kd.R_drewN | apply Kd.R_drew)); exact HO114.out) hb); have n4_ := Aside0.mk (blk_below (g := gb101) (o := .cells #[.slice A0_0 l0_0.length c0_0, .slice A0_1 l0_1.length c0_1, .slice A0_2 l0_2.length c0_2, .slice A0_3 l0_3.length c0_3, .int .i64 a0_4] 34 (0, 0)) (by (with_reducible repeat (first | refine blk_drewN ?_ _ | refine blk_drew ?_ | refine blk_alloc ?_ _)); exact BK101.out) hb); have n5_ := Aside0.mk (below_step (by repeat (first | (with_reducible first | exact HB.out | apply below_alloc | apply pw_below_drewN | apply below_drew1 | refine below_set ?_ GE101.out) | exact HB.out)) hb); clear HO105; clear HO108; clear HO111; clear HO114; clear BK101; clear HB; have HO105 := n0_; have HO108 := n1_; have HO111 := n2_; have HO114 := n3_; have BK101 := n4_; have HB := n5_; clear n0_ n1_ n2_ n3_ n4_ n5_; (try clear hb); (try clear hb2); (try clear hk); (try clear hi); have hcz22_0 : w21.cell? ⟨gb101, 0, none⟩ = some (.slice A0_0 l0_0.length c0_0) := (blk_cell BK101.out 0).trans rfl; have hcz22_1 : w21.cell? ⟨gb101, 1, none⟩ = some (.slice A0_1 l0_1.length c0_1) := (blk_cell BK101.out 1).trans rfl; have hcz22_2 : w21.cell? ⟨gb101, 2, none⟩ = some (.slice A0_2 l0_2.length c0_2) := (blk_cell BK101.out 2).trans rfl; have hcz22_3 : w21.cell? ⟨gb101, 3, none⟩ = some (.slice A0_3 l0_3.length c0_3) := (blk_cell BK101.out 3).trans rfl; have hcz22_4 : w21.cell? ⟨gb101, 4, none⟩ = some (.int .i64 a0_4) := (blk_cell BK101.out 4).trans rfl; have hfz22_0 := blk_frozen BK101.out 0; have hfz22_1 := blk_frozen BK101.out 1; have hfz22_2 := blk_frozen BK101.out 2; have hfz22_3 := blk_frozen BK101.out 3; have hfz22_4 := blk_frozen BK101.out 4) | ((with_reducible refine gate_callee (f := 15) rfl ?_); refine goesL_ (some 21) rfl rfl Try.func15 (by kernel_rfl) rfl #[.agg #[.slice A0_0 l0_0.length c0_0, .slice A0_1 l0_1.length c0_1, .slice A0_2 l0_2.length c0_2, .slice A0_3 l0_3.length c0_3, .int .i64 a0_4]] rfl (by (try simp only [List.map_toArray, List.map_cons, List.map_nil]); first | done | rfl | (simp only [List.length_drop, List.length_take]; rfl)) ?_; (with_reducible refine (laws_toTurns.calls k _ _ l0_0 _ _ l0_1 _ _ l0_2 _ _ l0_3 a0_4 t118 t121 t124 t127 t130 _ ?side1 ?side2 ?side3 ?side4 ?side5 ?side6 ?side7 ?side8 A9.out).mono ?_); (case side1 => repeat (first | exact (Kd.C_below HR0_0.out HB.out) | (with_reducible refine Kd.C_alloc ?_ _) | (with_reducible refine Kd.C_drewN ?_ _) | (with_reducible refine Kd.C_drew ?_))); (case side2 => exact HC0_0.out); (case side3 => repeat (first | exact (Kd.C_below HR0_1.out HB.out) | (with_reducible refine Kd.C_alloc ?_ _) | (with_reducible refine Kd.C_drewN ?_ _) | (with_reducible refine Kd.C_drew ?_))); (case side4 => exact HC0_1.out); (case side5 => repeat (first | exact (Kd.C_below HR0_2.out HB.out) | (with_reducible refine Kd.C_alloc ?_ _) | (with_reducible refine Kd.C_drewN ?_ _) | (with_reducible refine Kd.C_drew ?_))); (case side6 => exact HC0_2.out); (case side7 => repeat (first | exact (Kd.C_below HR0_3.out HB.out) | (with_reducible refine Kd.C_alloc ?_ _) | (with_reducible refine Kd.C_drewN ?_ _) | (with_reducible refine Kd.C_drew ?_))); (case side8 => exact HC0_3.out); rintro e w23 ⟨v119, v122, v125, v128, rfl, ho0, ho1, ho2, ho3, hb⟩; refine ⟨_, rfl, ?_⟩; have n0_ := Aside0.mk (Kd.R_mono (Kd.R_told (Kd.R_told (Kd.R_told (Kd.R_old (by (with_reducible repeat (first | apply Kd.R_alloc | apply Kd.R_drewN | apply Kd.R_drew)); exact HO105.out) hb) (Kd.R_base ho0)) (Kd.R_base ho2)) (Kd.R_base ho3)) (fun _ h_ => h_.1)); have n1_ := Aside0.mk (Kd.S_mono (Kd.S_told (Kd.S_told (Kd.S_told (Kd.S_told (Kd.S_old (by (with_reducible repeat (first | apply Kd.S_alloc | apply Kd.S_drewN | apply Kd.S_drew)); exact HO108.out) hb) (Kd.R_base ho0)) (Kd.S_base ho1)) (Kd.R_base ho2)) (Kd.R_base ho3)) (fun _ h_ => h_.1)); have n2_ := Aside0.mk (Kd.R_mono (Kd.R_told (Kd.R_told (Kd.R_told (Kd.R_old (by (with_reducible repeat (first | apply Kd.R_alloc | apply Kd.R_drewN | apply Kd.R_drew)); exact HO111.out) hb) (Kd.R_base ho0)) (Kd.R_base ho2)) (Kd.R_base ho3)) (fun _ h_ => h_.1)); have n3_ := Aside0.mk (Kd.R_mono (Kd.R_told (Kd.R_told (Kd.R_told (Kd.R_old (by (with_reducible repeat (first | apply Kd.R_alloc | apply Kd.R_drewN | apply Kd.R_drew)); exact HO114.out) hb) (Kd.R_base ho0)) (Kd.R_base ho2)) (Kd.R_base ho3)) (fun _ h_ => h_.1)); have n4_ := Aside0.mk (Kd.R_lower (Kd.R_new' (Kd.R_new' (Kd.R_new' ho0 (Kd.R_lt (by (with_reducible repeat (first | apply Kd.R_alloc | apply Kd.R_drewN | apply Kd.R_drew)); exact HO105.out))) (Kd.R_lt (by (with_reducible repeat (first | apply Kd.R_alloc | apply Kd.R_drewN | apply Kd.R_drew)); exact HO111.out))) (Kd.R_lt (by (with_reducible repeat (first | apply Kd.R_alloc | apply Kd.R_drewN | apply Kd.R_drew)); exact HO114.out))) (below_size (by repeat (first | (with_reducible first | exact HB.out | apply below_alloc | apply pw_below_drewN | apply below_drew1 | refine below_set ?_ GE101.out) | exact HB.out)))); have n5_ := Aside0.mk (Kd.S_lower (Kd.S_new' (Kd.S_new' (Kd.S_new' (Kd.S_new' ho1 (Kd.R_lt (by (with_reducible repeat (first | apply Kd.R_alloc | apply Kd.R_drewN | apply Kd.R_drew)); exact HO105.out))) (Kd.S_lt (by (with_reducible repeat (first | apply Kd.S_alloc | apply Kd.S_drewN | apply Kd.S_drew)); exact HO108.out))) (Kd.R_lt (by (with_reducible repeat (first | apply Kd.R_alloc | apply Kd.R_drewN | apply Kd.R_drew)); exact HO111.out))) (Kd.R_lt (by (with_reducible repeat (first | apply Kd.R_alloc | apply Kd.R_drewN | apply Kd.R_drew)); exact HO114.out))) (below_size (by repeat (first | (with_reducible first | exact HB.out | apply below_alloc | apply pw_below_drewN | apply below_drew1 | refine below_set ?_ GE101.out) | exact HB.out)))); have n6_ := Aside0.mk (Kd.R_lower (Kd.R_new' (Kd.R_new' (Kd.R_new' ho2 (Kd.R_lt (by (with_reducible repeat (first | apply Kd.R_alloc | apply Kd.R_drewN | apply Kd.R_drew)); exact HO105.out))) (Kd.R_lt (by (with_reducible repeat (first | apply Kd.R_alloc | apply Kd.R_drewN | apply Kd.R_drew)); exact HO111.out))) (Kd.R_lt (by (with_reducible repeat (first | apply Kd.R_alloc | apply Kd.R_drewN | apply Kd.R_drew)); exact HO114.out))) (below_size (by repeat (first | (with_reducible first | exact HB.out | apply below_alloc | apply pw_below_drewN | apply below_drew1 | refine below_set ?_ GE101.out) | exact HB.out)))); have n7_ := Aside0.mk (Kd.R_lower (Kd.R_new' (Kd.R_new' (Kd.R_new' ho3 (Kd.R_lt (by (with_reducible repeat (first | apply Kd.R_alloc | apply Kd.R_drewN | apply Kd.R_drew)); exact HO105.out))) (Kd.R_lt (by (with_reducible repeat (first | apply Kd.R_alloc | apply Kd.R_drewN | apply Kd.R_drew)); exact HO111.out))) (Kd.R_lt (by (with_reducible repeat (first | apply Kd.R_alloc | apply Kd.R_drewN | apply Kd.R_drew)); exact HO114.out))) (below_size (by repeat (first | (with_reducible first | exact HB.out | apply below_alloc | apply pw_below_drewN | apply below_drew1 | refine below_set ?_ GE101.out) | exact HB.out)))); have n8_ := Aside0.mk (blk_below (g := gb101) (o := .cells #[.slice A0_0 l0_0.length c0_0, .slice A0_1 l0_1.length c0_1, .slice A0_2 l0_2.length c0_2, .slice A0_3 l0_3.length c0_3, .int .i64 a0_4] 34 (0, 0)) (by (with_reducible repeat (first | refine blk_drewN ?_ _ | refine blk_drew ?_ | refine blk_alloc ?_ _)); exact BK101.out) hb); have n9_ := Aside0.mk (below_step (by repeat (first | (with_reducible first | exact HB.out | apply below_alloc | apply pw_below_drewN | apply below_drew1 | refine below_set ?_ GE101.out) | exact HB.out)) hb); clear HO105; clear HO108; clear HO111; clear HO114; clear BK101; clear HB; have HO105 := n0_; have HO108 := n1_; have HO111 := n2_; have HO114 := n3_; have HO120 := n4_; have HO123 := n5_; have HO126 := n6_; have HO129 := n7_; have BK101 := n8_; have HB := n9_; clear n0_ n1_ n2_ n3_ n4_ n5_ n6_ n7_ n8_ n9_; (try clear hb); (try clear hb2); (try clear hk); (try clear hi); (try clear ho0); (try clear ho1); (try clear ho2); (try clear ho3)) | ((with_reducible refine gate_dst (N := 6) rfl ?_); refine box_event ?hg (N := 6) ?hd (cs := #[.slice none 0 0, .slice none 0 0, .slice none 0 0, .slice none 0 0, .int .i64 0]) (t := 25) ?hr ?_; (case hd => rfl); (case hg => rfl); (case hr => first | (go_simp; done) | (go_simp; rfl)); intro gb131 hg w24 hbox hb; have n0_ := Aside0.mk (Kd.R_below (by (with_reducible repeat (first | apply Kd.R_alloc | apply Kd.R_drewN | apply Kd.R_drew)); exact HO105.out) hb); have n1_ := Aside0.mk (Kd.S_below (by (with_reducible repeat (first | apply Kd.S_alloc | apply Kd.S_drewN | apply Kd.S_drew)); exact HO108.out) hb); have n2_ := Aside0.mk (Kd.R_below (by (with_reducible repeat (first | apply Kd.R_alloc | apply Kd.R_drewN | apply Kd.R_drew)); exact HO111.out) hb); have n3_ := Aside0.mk (Kd.R_below (by (with_reducible repeat (first | apply Kd.R_alloc | apply Kd.R_drewN | apply Kd.R_drew)); exact HO114.out) hb); have n4_ := Aside0.mk (Kd.R_below (by (with_reducible repeat (first | apply Kd.R_alloc | apply Kd.R_drewN | apply Kd.R_drew)); exact HO120.out) hb); have n5_ := Aside0.mk (Kd.S_below (by (with_reducible repeat (first | apply Kd.S_alloc | apply Kd.S_drewN | apply Kd.S_drew)); exact HO123.out) hb); have n6_ := Aside0.mk (Kd.R_below (by (with_reducible repeat (first | apply Kd.R_alloc | apply Kd.R_drewN | apply Kd.R_drew)); exact HO126.out) hb); have n7_ := Aside0.mk (Kd.R_below (by (with_reducible repeat (first | apply Kd.R_alloc | apply Kd.R_drewN | apply Kd.R_drew)); exact HO129.out) hb); have n8_ := Aside0.mk (blk_below (g := gb101) (o := .cells #[.slice A0_0 l0_0.length c0_0, .slice A0_1 l0_1.length c0_1, .slice A0_2 l0_2.length c0_2, .slice A0_3 l0_3.length c0_3, .int .i64 a0_4] 34 (0, 0)) (by (with_reducible repeat (first | refine blk_drewN ?_ _ | refine blk_drew ?_ | refine blk_alloc ?_ _)); exact BK101.out) hb); have n9_ := Aside0.mk (below_step (by repeat (first | (with_reducible first | exact HB.out | apply below_alloc | apply pw_below_drewN | apply below_drew1 | refine below_set ?_ GE101.out) | exact HB.out)) hb); have n10_ := Aside0.mk (hbox); have n11_ := Aside0.mk ((by rw [hg]; exact (below_size (by repeat (first | (with_reducible first | exact HB.out | apply below_alloc | apply pw_below_drewN | apply below_drew1 | refine below_set ?_ GE101.out) | exact HB.out))) : w.heap.size ≤ gb131)); have n12_ := Aside0.mk ((by rw [hg]; exact (below_size (by repeat (first | (with_reducible first | exact HB.out | apply below_alloc | apply pw_below_drewN | apply below_drew1 | refine below_set ?_ GE101.out) | exact HB.out))) : w.heap.size ≤ gb131)); have n13_ := Aside0.mk ((by rw [hg]; exact Nat.ne_of_lt (blk_lt (g := gb101) (o := .cells #[.slice A0_0 l0_0.length c0_0, .slice A0_1 l0_1.length c0_1, .slice A0_2 l0_2.length c0_2, .slice A0_3 l0_3.length c0_3, .int .i64 a0_4] 34 (0, 0)) (by (with_reducible repeat (first | refine blk_drewN ?_ _ | refine blk_drew ?_ | refine blk_alloc ?_ _)); exact BK101.out)) : gb101 ≠ gb131)); have n14_ := Aside0.mk ((by rw [hg]; exact Nat.ne_of_gt (blk_lt (g := gb101) (o := .cells #[.slice A0_0 l0_0.length c0_0, .slice A0_1 l0_1.length c0_1, .slice A0_2 l0_2.length c0_2, .slice A0_3 l0_3.length c0_3, .int .i64 a0_4] 34 (0, 0)) (by (with_reducible repeat (first | refine blk_drewN ?_ _ | refine blk_drew ?_ | refine blk_alloc ?_ _)); exact BK101.out)) : gb131 ≠ gb101)); clear HO105; clear HO108; clear HO111; clear HO114; clear HO120; clear HO123; clear HO126; clear HO129; clear BK101; clear HB; have HO105 := n0_; have HO108 := n1_; have HO111 := n2_; have HO114 := n3_; have HO120 := n4_; have HO123 := n5_; have HO126 := n6_; have HO129 := n7_; have BK101 := n8_; have HB := n9_; have BK131 := n10_; have GW131 := n11_; have GE131 := n12_; have NB101_131 := n13_; have NB131_101 := n14_; clear n0_ n1_ n2_ n3_ n4_ n5_ n6_ n7_ n8_ n9_ n10_ n11_ n12_ n13_ n14_; clear hb hbox hg; obtain ⟨Ao25, co25, eo25⟩ := Kd.R_slice HO120.out; subst eo25; have hnb26 := NB131_101.out; have hnc26 := NB101_131.out; have hcz27_0 : w24.cell? ⟨gb131, 0, none⟩ = some (.slice none 0 0) := (blk_cell BK131.out 0).trans rfl; have hcz27_1 : w24.cell? ⟨gb131, 1, none⟩ = some (.slice none 0 0) := (blk_cell BK131.out 1).trans rfl; have hcz27_2 : w24.cell? ⟨gb131, 2, none⟩ = some (.slice none 0 0) := (blk_cell BK131.out 2).trans rfl; have hcz27_3 : w24.cell? ⟨gb131, 3, none⟩ = some (.slice none 0 0) := (blk_cell BK131.out 3).trans rfl; have hcz27_4 : w24.cell? ⟨gb131, 4, none⟩ = some (.int .i64 0) := (blk_cell BK131.out 4).trans rfl; have hfz27_0 := blk_frozen BK131.out 0; have hfz27_1 := blk_frozen BK131.out 1; have hfz27_2 := blk_frozen BK131.out 2; have hfz27_3 := blk_frozen BK131.out 3; have hfz27_4 := blk_frozen BK131.out 4; obtain ⟨Ao28, co28, eo28⟩ := Kd.S_slice HO123.out; subst eo28; obtain ⟨Ao29, co29, eo29⟩ := Kd.R_slice HO126.out; subst eo29; obtain ⟨Ao30, co30, eo30⟩ := Kd.R_slice HO129.out; subst eo30) | ((with_reducible refine gate_callee (f := 16) rfl ?_); refine goesL_ (some 24) rfl rfl Try.func16 (by kernel_rfl) rfl #[.agg #[.slice Ao25 t118.length co25, .slice Ao28 t121.length co28, .slice Ao29 t124.length co29, .slice Ao30 t127.length co30, .int .i64 t130]] rfl (by (try simp only [List.map_toArray, List.map_cons, List.map_nil]); first | done | rfl | (simp only [List.length_drop, List.length_take]; rfl)) ?_; (with_reducible refine (impl_WaitingIn.calls k _ _ t118 _ _ t121 _ _ t124 _ _ t127 t130 t132 t133 _ ?side1 ?side2 ?side3 ?side4 ?side5 ?side6 ?side7 ?side8 A10.out).mono ?_); (case side1 => refine (Kd.R_reads' (e := 3) (base := w.heap.size) (ok := fun k_ => ((((some k_ ≠ (.slice Ao29 t124.length co29 : Value).ownBlock ∧ some k_ ≠ (.slice Ao30 t127.length co30 : Value).ownBlock) ∧ some k_ ≠ (.slice Ao17 t103.length co17 : Value).ownBlock) ∧ some k_ ≠ (.slice Ao19 t109.length co19 : Value).ownBlock) ∧ some k_ ≠ (.slice Ao20 t112.length co20 : Value).ownBlock)) (n := t118.length) (c := co25) ?_).2.2; exact (by (with_reducible repeat (first | apply Kd.R_alloc | apply Kd.R_drewN | apply Kd.R_drew)); exact (Kd.R_mono (Kd.R_far (p := ⟨gb131, 4, none⟩) (Kd.R_far (p := ⟨gb131, 3, none⟩) (Kd.R_far (p := ⟨gb131, 2, none⟩) (Kd.R_far (p := ⟨gb131, 1, none⟩) (Kd.R_far (p := ⟨gb131, 0, none⟩) (Kd.R_types HO120.out BK131.out (by decide)) (fun _ hk => hk.2) (.slice Ao25 t118.length co25)) (fun _ hk => hk.2) (.slice Ao28 t121.length co28)) (fun _ hk => hk.2) (.slice Ao29 t124.length co29)) (fun _ hk => hk.2) (.slice Ao30 t127.length co30)) (fun _ hk => hk.2) (.int .i64 t130)) (fun _ h_ => h_.1)))); (case side2 => exact (Kd.R_reads' HO120.out).2.1); (case side3 => refine (Kd.S_reads' (e := 22) (base := w.heap.size) (ok := fun k_ => (((((some k_ ≠ (.slice Ao25 t118.length co25 : Value).ownBlock ∧ (some k_ ≠ (.slice Ao29 t124.length co29 : Value).ownBlock ∧ some k_ ≠ (.slice Ao30 t127.length co30 : Value).ownBlock)) ∧ some k_ ≠ (.slice Ao17 t103.length co17 : Value).ownBlock) ∧ some k_ ≠ (.slice Ao18 t106.length co18 : Value).ownBlock) ∧ some k_ ≠ (.slice Ao19 t109.length co19 : Value).ownBlock) ∧ some k_ ≠ (.slice Ao20 t112.length co20 : Value).ownBlock)) (n := t121.length) (c := co28) ?_).2.2; exact (by (with_reducible repeat (first | apply Kd.S_alloc | apply Kd.S_drewN | apply Kd.S_drew)); exact (Kd.S_mono (Kd.S_far (p := ⟨gb131, 4, none⟩) (Kd.S_far (p := ⟨gb131, 3, none⟩) (Kd.S_far (p := ⟨gb131, 2, none⟩) (Kd.S_far (p := ⟨gb131, 1, none⟩) (Kd.S_far (p := ⟨gb131, 0, none⟩) (Kd.S_types HO123.out BK131.out (by decide)) (fun _ hk => hk.2) (.slice Ao25 t118.length co25)) (fun _ hk => hk.2) (.slice Ao28 t121.length co28)) (fun _ hk => hk.2) (.slice Ao29 t124.length co29)) (fun _ hk => hk.2) (.slice Ao30 t127.length co30)) (fun _ hk => hk.2) (.int .i64 t130)) (fun _ h_ => h_.1)))); (case side4 => exact (Kd.S_reads' HO123.out).2.1); (case side5 => refine (Kd.R_reads' (e := 3) (base := w.heap.size) (ok := fun k_ => ((((some k_ ≠ (.slice Ao25 t118.length co25 : Value).ownBlock ∧ some k_ ≠ (.slice Ao30 t127.length co30 : Value).ownBlock) ∧ some k_ ≠ (.slice Ao17 t103.length co17 : Value).ownBlock) ∧ some k_ ≠ (.slice Ao19 t109.length co19 : Value).ownBlock) ∧ some k_ ≠ (.slice Ao20 t112.length co20 : Value).ownBlock)) (n := t124.length) (c := co29) ?_).2.2; exact (by (with_reducible repeat (first | apply Kd.R_alloc | apply Kd.R_drewN | apply Kd.R_drew)); exact (Kd.R_mono (Kd.R_far (p := ⟨gb131, 4, none⟩) (Kd.R_far (p := ⟨gb131, 3, none⟩) (Kd.R_far (p := ⟨gb131, 2, none⟩) (Kd.R_far (p := ⟨gb131, 1, none⟩) (Kd.R_far (p := ⟨gb131, 0, none⟩) (Kd.R_types HO126.out BK131.out (by decide)) (fun _ hk => hk.2) (.slice Ao25 t118.length co25)) (fun _ hk => hk.2) (.slice Ao28 t121.length co28)) (fun _ hk => hk.2) (.slice Ao29 t124.length co29)) (fun _ hk => hk.2) (.slice Ao30 t127.length co30)) (fun _ hk => hk.2) (.int .i64 t130)) (fun _ h_ => h_.1)))); (case side6 => exact (Kd.R_reads' HO126.out).2.1); (case side7 => refine (Kd.R_reads' (e := 3) (base := w.heap.size) (ok := fun k_ => ((((some k_ ≠ (.slice Ao25 t118.length co25 : Value).ownBlock ∧ some k_ ≠ (.slice Ao29 t124.length co29 : Value).ownBlock) ∧ some k_ ≠ (.slice Ao17 t103.length co17 : Value).ownBlock) ∧ some k_ ≠ (.slice Ao19 t109.length co19 : Value).ownBlock) ∧ some k_ ≠ (.slice Ao20 t112.length co20 : Value).ownBlock)) (n := t127.length) (c := co30) ?_).2.2; exact (by (with_reducible repeat (first | apply Kd.R_alloc | apply Kd.R_drewN | apply Kd.R_drew)); exact (Kd.R_mono (Kd.R_far (p := ⟨gb131, 4, none⟩) (Kd.R_far (p := ⟨gb131, 3, none⟩) (Kd.R_far (p := ⟨gb131, 2, none⟩) (Kd.R_far (p := ⟨gb131, 1, none⟩) (Kd.R_far (p := ⟨gb131, 0, none⟩) (Kd.R_types HO129.out BK131.out (by decide)) (fun _ hk => hk.2) (.slice Ao25 t118.length co25)) (fun _ hk => hk.2) (.slice Ao28 t121.length co28)) (fun _ hk => hk.2) (.slice Ao29 t124.length co29)) (fun _ hk => hk.2) (.slice Ao30 t127.length co30)) (fun _ hk => hk.2) (.int .i64 t130)) (fun _ h_ => h_.1)))); (case side8 => exact (Kd.R_reads' HO129.out).2.1); rintro e w31 ⟨rfl, hb⟩; refine ⟨_, rfl, ?_⟩; have n0_ := Aside0.mk (Kd.R_below (by (with_reducible repeat (first | apply Kd.R_alloc | apply Kd.R_drewN | apply Kd.R_drew)); exact (Kd.R_mono (Kd.R_far (p := ⟨gb131, 4, none⟩) (Kd.R_far (p := ⟨gb131, 3, none⟩) (Kd.R_far (p := ⟨gb131, 2, none⟩) (Kd.R_far (p := ⟨gb131, 1, none⟩) (Kd.R_far (p := ⟨gb131, 0, none⟩) (Kd.R_types HO105.out BK131.out (by decide)) (fun _ hk => hk.2) (.slice Ao25 t118.length co25)) (fun _ hk => hk.2) (.slice Ao28 t121.length co28)) (fun _ hk => hk.2) (.slice Ao29 t124.length co29)) (fun _ hk => hk.2) (.slice Ao30 t127.length co30)) (fun _ hk => hk.2) (.int .i64 t130)) (fun _ h_ => h_.1))) hb); have n1_ := Aside0.mk (Kd.S_below (by (with_reducible repeat (first | apply Kd.S_alloc | apply Kd.S_drewN | apply Kd.S_drew)); exact (Kd.S_mono (Kd.S_far (p := ⟨gb131, 4, none⟩) (Kd.S_far (p := ⟨gb131, 3, none⟩) (Kd.S_far (p := ⟨gb131, 2, none⟩) (Kd.S_far (p := ⟨gb131, 1, none⟩) (Kd.S_far (p := ⟨gb131, 0, none⟩) (Kd.S_types HO108.out BK131.out (by decide)) (fun _ hk => hk.2) (.slice Ao25 t118.length co25)) (fun _ hk => hk.2) (.slice Ao28 t121.length co28)) (fun _ hk => hk.2) (.slice Ao29 t124.length co29)) (fun _ hk => hk.2) (.slice Ao30 t127.length co30)) (fun _ hk => hk.2) (.int .i64 t130)) (fun _ h_ => h_.1))) hb); have n2_ := Aside0.mk (Kd.R_below (by (with_reducible repeat (first | apply Kd.R_alloc | apply Kd.R_drewN | apply Kd.R_drew)); exact (Kd.R_mono (Kd.R_far (p := ⟨gb131, 4, none⟩) (Kd.R_far (p := ⟨gb131, 3, none⟩) (Kd.R_far (p := ⟨gb131, 2, none⟩) (Kd.R_far (p := ⟨gb131, 1, none⟩) (Kd.R_far (p := ⟨gb131, 0, none⟩) (Kd.R_types HO111.out BK131.out (by decide)) (fun _ hk => hk.2) (.slice Ao25 t118.length co25)) (fun _ hk => hk.2) (.slice Ao28 t121.length co28)) (fun _ hk => hk.2) (.slice Ao29 t124.length co29)) (fun _ hk => hk.2) (.slice Ao30 t127.length co30)) (fun _ hk => hk.2) (.int .i64 t130)) (fun _ h_ => h_.1))) hb); have n3_ := Aside0.mk (Kd.R_below (by (with_reducible repeat (first | apply Kd.R_alloc | apply Kd.R_drewN | apply Kd.R_drew)); exact (Kd.R_mono (Kd.R_far (p := ⟨gb131, 4, none⟩) (Kd.R_far (p := ⟨gb131, 3, none⟩) (Kd.R_far (p := ⟨gb131, 2, none⟩) (Kd.R_far (p := ⟨gb131, 1, none⟩) (Kd.R_far (p := ⟨gb131, 0, none⟩) (Kd.R_types HO114.out BK131.out (by decide)) (fun _ hk => hk.2) (.slice Ao25 t118.length co25)) (fun _ hk => hk.2) (.slice Ao28 t121.length co28)) (fun _ hk => hk.2) (.slice Ao29 t124.length co29)) (fun _ hk => hk.2) (.slice Ao30 t127.length co30)) (fun _ hk => hk.2) (.int .i64 t130)) (fun _ h_ => h_.1))) hb); have n4_ := Aside0.mk (Kd.R_below (by (with_reducible repeat (first | apply Kd.R_alloc | apply Kd.R_drewN | apply Kd.R_drew)); exact (Kd.R_mono (Kd.R_far (p := ⟨gb131, 4, none⟩) (Kd.R_far (p := ⟨gb131, 3, none⟩) (Kd.R_far (p := ⟨gb131, 2, none⟩) (Kd.R_far (p := ⟨gb131, 1, none⟩) (Kd.R_far (p := ⟨gb131, 0, none⟩) (Kd.R_types HO120.out BK131.out (by decide)) (fun _ hk => hk.2) (.slice Ao25 t118.length co25)) (fun _ hk => hk.2) (.slice Ao28 t121.length co28)) (fun _ hk => hk.2) (.slice Ao29 t124.length co29)) (fun _ hk => hk.2) (.slice Ao30 t127.length co30)) (fun _ hk => hk.2) (.int .i64 t130)) (fun _ h_ => h_.1))) hb); have n5_ := Aside0.mk (Kd.S_below (by (with_reducible repeat (first | apply Kd.S_alloc | apply Kd.S_drewN | apply Kd.S_drew)); exact (Kd.S_mono (Kd.S_far (p := ⟨gb131, 4, none⟩) (Kd.S_far (p := ⟨gb131, 3, none⟩) (Kd.S_far (p := ⟨gb131, 2, none⟩) (Kd.S_far (p := ⟨gb131, 1, none⟩) (Kd.S_far (p := ⟨gb131, 0, none⟩) (Kd.S_types HO123.out BK131.out (by decide)) (fun _ hk => hk.2) (.slice Ao25 t118.length co25)) (fun _ hk => hk.2) (.slice Ao28 t121.length co28)) (fun _ hk => hk.2) (.slice Ao29 t124.length co29)) (fun _ hk => hk.2) (.slice Ao30 t127.length co30)) (fun _ hk => hk.2) (.int .i64 t130)) (fun _ h_ => h_.1))) hb); have n6_ := Aside0.mk (Kd.R_below (by (with_reducible repeat (first | apply Kd.R_alloc | apply Kd.R_drewN | apply Kd.R_drew)); exact (Kd.R_mono (Kd.R_far (p := ⟨gb131, 4, none⟩) (Kd.R_far (p := ⟨gb131, 3, none⟩) (Kd.R_far (p := ⟨gb131, 2, none⟩) (Kd.R_far (p := ⟨gb131, 1, none⟩) (Kd.R_far (p := ⟨gb131, 0, none⟩) (Kd.R_types HO126.out BK131.out (by decide)) (fun _ hk => hk.2) (.slice Ao25 t118.length co25)) (fun _ hk => hk.2) (.slice Ao28 t121.length co28)) (fun _ hk => hk.2) (.slice Ao29 t124.length co29)) (fun _ hk => hk.2) (.slice Ao30 t127.length co30)) (fun _ hk => hk.2) (.int .i64 t130)) (fun _ h_ => h_.1))) hb); have n7_ := Aside0.mk (Kd.R_below (by (with_reducible repeat (first | apply Kd.R_alloc | apply Kd.R_drewN | apply Kd.R_drew)); exact (Kd.R_mono (Kd.R_far (p := ⟨gb131, 4, none⟩) (Kd.R_far (p := ⟨gb131, 3, none⟩) (Kd.R_far (p := ⟨gb131, 2, none⟩) (Kd.R_far (p := ⟨gb131, 1, none⟩) (Kd.R_far (p := ⟨gb131, 0, none⟩) (Kd.R_types HO129.out BK131.out (by decide)) (fun _ hk => hk.2) (.slice Ao25 t118.length co25)) (fun _ hk => hk.2) (.slice Ao28 t121.length co28)) (fun _ hk => hk.2) (.slice Ao29 t124.length co29)) (fun _ hk => hk.2) (.slice Ao30 t127.length co30)) (fun _ hk => hk.2) (.int .i64 t130)) (fun _ h_ => h_.1))) hb); have n8_ := Aside0.mk (blk_below (g := gb101) (o := .cells #[.slice A0_0 l0_0.length c0_0, .slice A0_1 l0_1.length c0_1, .slice A0_2 l0_2.length c0_2, .slice A0_3 l0_3.length c0_3, .int .i64 a0_4] 34 (0, 0)) (by (with_reducible repeat (first | refine blk_drewN ?_ _ | refine blk_drew ?_ | refine blk_alloc ?_ _)); refine blk_far ?_ NB101_131.out _; (with_reducible repeat (first | refine blk_drewN ?_ _ | refine blk_drew ?_ | refine blk_alloc ?_ _)); refine blk_far ?_ NB101_131.out _; (with_reducible repeat (first | refine blk_drewN ?_ _ | refine blk_drew ?_ | refine blk_alloc ?_ _)); refine blk_far ?_ NB101_131.out _; (with_reducible repeat (first | refine blk_drewN ?_ _ | refine blk_drew ?_ | refine blk_alloc ?_ _)); refine blk_far ?_ NB101_131.out _; (with_reducible repeat (first | refine blk_drewN ?_ _ | refine blk_drew ?_ | refine blk_alloc ?_ _)); refine blk_far ?_ NB101_131.out _; (with_reducible repeat (first | refine blk_drewN ?_ _ | refine blk_drew ?_ | refine blk_alloc ?_ _)); exact BK101.out) hb); have n9_ := Aside0.mk (blk_below (g := gb131) (o := .cells #[.slice Ao25 t118.length co25, .slice Ao28 t121.length co28, .slice Ao29 t124.length co29, .slice Ao30 t127.length co30, .int .i64 t130] 25 (0, 0)) (by (with_reducible repeat (first | refine blk_drewN ?_ _ | refine blk_drew ?_ | refine blk_alloc ?_ _)); refine blk_put (cs := #[.slice Ao25 t118.length co25, .slice Ao28 t121.length co28, .slice Ao29 t124.length co29, .slice Ao30 t127.length co30, .int .i64 0]) ?_ 4 _ rfl; (with_reducible repeat (first | refine blk_drewN ?_ _ | refine blk_drew ?_ | refine blk_alloc ?_ _)); refine blk_put (cs := #[.slice Ao25 t118.length co25, .slice Ao28 t121.length co28, .slice Ao29 t124.length co29, .slice none 0 0, .int .i64 0]) ?_ 3 _ rfl; (with_reducible repeat (first | refine blk_drewN ?_ _ | refine blk_drew ?_ | refine blk_alloc ?_ _)); refine blk_put (cs := #[.slice Ao25 t118.length co25, .slice Ao28 t121.length co28, .slice none 0 0, .slice none 0 0, .int .i64 0]) ?_ 2 _ rfl; (with_reducible repeat (first | refine blk_drewN ?_ _ | refine blk_drew ?_ | refine blk_alloc ?_ _)); refine blk_put (cs := #[.slice Ao25 t118.length co25, .slice none 0 0, .slice none 0 0, .slice none 0 0, .int .i64 0]) ?_ 1 _ rfl; (with_reducible repeat (first | refine blk_drewN ?_ _ | refine blk_drew ?_ | refine blk_alloc ?_ _)); refine blk_put (cs := #[.slice none 0 0, .slice none 0 0, .slice none 0 0, .slice none 0 0, .int .i64 0]) ?_ 0 _ rfl; (with_reducible repeat (first | refine blk_drewN ?_ _ | refine blk_drew ?_ | refine blk_alloc ?_ _)); exact BK131.out) hb); have n10_ := Aside0.mk (below_step (by repeat (first | (with_reducible first | exact HB.out | apply below_alloc | apply pw_below_drewN | apply below_drew1 | refine below_set ?_ GE101.out | refine below_set ?_ GE131.out) | exact HB.out)) hb); clear HO105; clear HO108; clear HO111; clear HO114; clear HO120; clear HO123; clear HO126; clear HO129; clear BK101; clear BK131; clear HB; have HO105 := n0_; have HO108 := n1_; have HO111 := n2_; have HO114 := n3_; have HO120 := n4_; have HO123 := n5_; have HO126 := n6_; have HO129 := n7_; have BK101 := n8_; have BK131 := n9_; have HB := n10_; clear n0_ n1_ n2_ n3_ n4_ n5_ n6_ n7_ n8_ n9_ n10_; (try clear hb); (try clear hb2); (try clear hk); (try clear hi)))
    (try simp only [Act.put, List.setIfInBounds_toArray, List.set_cons_zero, List.set_cons_succ])
    go_cut [34] (fun v34 wc => ∃ (kq : Nat) (x34_10 : Bool), v34 = .bool x34_10 ∧ Aside0 (laws_FnExactWaitingIn.j0 kq x34_10 l0_0 l0_1 l0_2 l0_3 a0_4 t118 t121 t124 t127 t130 = some r) ∧ Aside0 (kq ≤ k) ∧ Aside0 (Kd.R (Kd.int .i64) 3 wc w.heap.size (fun k_ => some k_ ≠ ((.slice Ao29 t124.length co29) : Value).ownBlock ∧ some k_ ≠ ((.slice Ao30 t127.length co30) : Value).ownBlock) (.slice Ao25 t118.length co25) t118) ∧ Aside0 (Kd.S (Kd.slice 3 (Kd.int .i64)) 22 wc w.heap.size (fun k_ => some k_ ≠ ((.slice Ao25 t118.length co25) : Value).ownBlock ∧ some k_ ≠ ((.slice Ao29 t124.length co29) : Value).ownBlock ∧ some k_ ≠ ((.slice Ao30 t127.length co30) : Value).ownBlock) (.slice Ao28 t121.length co28) t121) ∧ Aside0 (Kd.R (Kd.int .i64) 3 wc w.heap.size (fun k_ => some k_ ≠ ((.slice Ao25 t118.length co25) : Value).ownBlock ∧ some k_ ≠ ((.slice Ao30 t127.length co30) : Value).ownBlock) (.slice Ao29 t124.length co29) t124) ∧ Aside0 (Kd.R (Kd.int .i64) 3 wc w.heap.size (fun k_ => some k_ ≠ ((.slice Ao25 t118.length co25) : Value).ownBlock ∧ some k_ ≠ ((.slice Ao29 t124.length co29) : Value).ownBlock) (.slice Ao30 t127.length co30) t127) ∧ Aside0 (wc.heap[gb101]? = some (.cells #[(.slice A0_0 l0_0.length c0_0), (.slice A0_1 l0_1.length c0_1), (.slice A0_2 l0_2.length c0_2), (.slice A0_3 l0_3.length c0_3), .int .i64 a0_4] 34 (0, 0))) ∧ Aside0 (wc.heap[gb131]? = some (.cells #[(.slice Ao25 t118.length co25), (.slice Ao28 t121.length co28), (.slice Ao29 t124.length co29), (.slice Ao30 t127.length co30), .int .i64 t130] 25 (0, 0))) ∧ Aside0 (Below w.heap.size w wc))
    case first =>
      have H := HC11.out
      clear HC11
      by_cases c32 : t132 = t116
      · rw [if_pos c32] at H
        have c32b0 : (t132 == t116) = true := beq_iff_eq.mpr c32
        have c32b1 : (t132 != t116) = false := bne_eq_false_iff_eq.mpr c32
        clear c32
        (first | rw [c32b0] | (simp only [i64_w, i32_w]; rw [c32b0]) | skip)
        have H' := Aside0.mk H
        clear H
        go_wp2
        go_meet
        case rel => exact ⟨_, ((t133 != t117)), (by first | rfl | (simp; done) | (simp [*]; done)), H', ⟨by first | omega | exact Nat.le_refl _⟩, ⟨by (with_reducible repeat (first | apply Kd.R_alloc | apply Kd.R_drewN | apply Kd.R_drew)); exact Kd.R_mono HO120.out (fun _ hk => ⟨hk.1.1.1.1, hk.1.1.1.2⟩)⟩, ⟨by (with_reducible repeat (first | apply Kd.S_alloc | apply Kd.S_drewN | apply Kd.S_drew)); exact Kd.S_mono HO123.out (fun _ hk => ⟨hk.1.1.1.1.1, ⟨hk.1.1.1.1.2.1, hk.1.1.1.1.2.2⟩⟩)⟩, ⟨by (with_reducible repeat (first | apply Kd.R_alloc | apply Kd.R_drewN | apply Kd.R_drew)); exact Kd.R_mono HO126.out (fun _ hk => ⟨hk.1.1.1.1, hk.1.1.1.2⟩)⟩, ⟨by (with_reducible repeat (first | apply Kd.R_alloc | apply Kd.R_drewN | apply Kd.R_drew)); exact Kd.R_mono HO129.out (fun _ hk => ⟨hk.1.1.1.1, hk.1.1.1.2⟩)⟩, ⟨by (with_reducible repeat (first | refine blk_drewN ?_ _ | refine blk_drew ?_ | refine blk_alloc ?_ _)); exact BK101.out⟩, ⟨by (with_reducible repeat (first | refine blk_drewN ?_ _ | refine blk_drew ?_ | refine blk_alloc ?_ _)); exact BK131.out⟩, ⟨by repeat (first | (with_reducible first | exact HB.out | apply below_alloc | apply pw_below_drewN | apply below_drew1 | refine below_set ?_ GE101.out | refine below_set ?_ GE131.out) | exact HB.out)⟩⟩
      · rw [if_neg c32] at H
        have c32b0 : (t132 == t116) = false := beq_eq_false_iff_ne.mpr c32
        have c32b1 : (t132 != t116) = true := bne_iff_ne.mpr c32
        (first | rw [c32b0] | (simp only [i64_w, i32_w]; rw [c32b0]) | skip)
        have H' := Aside0.mk H
        clear H
        go_wp2
        go_meet
        case rel => exact ⟨_, (true), (by first | rfl | (simp; done) | (simp [*]; done)), H', ⟨by first | omega | exact Nat.le_refl _⟩, ⟨by (with_reducible repeat (first | apply Kd.R_alloc | apply Kd.R_drewN | apply Kd.R_drew)); exact Kd.R_mono HO120.out (fun _ hk => ⟨hk.1.1.1.1, hk.1.1.1.2⟩)⟩, ⟨by (with_reducible repeat (first | apply Kd.S_alloc | apply Kd.S_drewN | apply Kd.S_drew)); exact Kd.S_mono HO123.out (fun _ hk => ⟨hk.1.1.1.1.1, ⟨hk.1.1.1.1.2.1, hk.1.1.1.1.2.2⟩⟩)⟩, ⟨by (with_reducible repeat (first | apply Kd.R_alloc | apply Kd.R_drewN | apply Kd.R_drew)); exact Kd.R_mono HO126.out (fun _ hk => ⟨hk.1.1.1.1, hk.1.1.1.2⟩)⟩, ⟨by (with_reducible repeat (first | apply Kd.R_alloc | apply Kd.R_drewN | apply Kd.R_drew)); exact Kd.R_mono HO129.out (fun _ hk => ⟨hk.1.1.1.1, hk.1.1.1.2⟩)⟩, ⟨by (with_reducible repeat (first | refine blk_drewN ?_ _ | refine blk_drew ?_ | refine blk_alloc ?_ _)); exact BK101.out⟩, ⟨by (with_reducible repeat (first | refine blk_drewN ?_ _ | refine blk_drew ?_ | refine blk_alloc ?_ _)); exact BK131.out⟩, ⟨by repeat (first | (with_reducible first | exact HB.out | apply below_alloc | apply pw_below_drewN | apply below_drew1 | refine below_set ?_ GE101.out | refine below_set ?_ GE131.out) | exact HB.out)⟩⟩
    case rest =>
      clear HC11
      try clear c1
      try clear c2
      try clear p2
      try clear c3
      try clear c3b0
      try clear c4
      try clear c13
      try clear c14
      try clear c15
      try clear c16
      try clear c26
      try clear c32
      try clear c32b0
      try clear c32b1
      try clear hcz13_0
      try clear hcz13_1
      try clear hcz13_2
      try clear hcz13_3
      try clear hcz13_4
      try clear hcz15_0
      try clear hcz15_1
      try clear hcz15_2
      try clear hcz15_3
      try clear hcz15_4
      try clear hcz22_0
      try clear hcz22_1
      try clear hcz22_2
      try clear hcz22_3
      try clear hcz22_4
      try clear hcz27_0
      try clear hcz27_1
      try clear hcz27_2
      try clear hcz27_3
      try clear hcz27_4
      try clear hcz5_0
      try clear hcz5_1
      try clear hcz5_2
      try clear hcz5_3
      try clear hcz5_4
      try clear hfz13_0
      try clear hfz13_1
      try clear hfz13_2
      try clear hfz13_3
      try clear hfz13_4
      try clear hfz15_0
      try clear hfz15_1
      try clear hfz15_2
      try clear hfz15_3
      try clear hfz15_4
      try clear hfz22_0
      try clear hfz22_1
      try clear hfz22_2
      try clear hfz22_3
      try clear hfz22_4
      try clear hfz27_0
      try clear hfz27_1
      try clear hfz27_2
      try clear hfz27_3
      try clear hfz27_4
      try clear hfz5_0
      try clear hfz5_1
      try clear hfz5_2
      try clear hfz5_3
      try clear hfz5_4
      obtain ⟨kq, x34_10, rfl, HA, HJ10, HO_132000, HO_132001, HO_132002, HO_132003, BK101, BK131, HB⟩ := hcut
      cases kq with
      | zero => exact absurd HA.out (by simp [laws_FnExactWaitingIn.j0])
      | succ kj10 =>
        have H := HA.out
        clear HA
        simp only [laws_FnExactWaitingIn.j0] at H
        by_cases c33 : x34_10 = true
        · subst c33
          have H1 : (some false) = some r := by rw [if_pos rfl] at H; exact H
          clear H
          have H := H1
          clear H1
          obtain rfl := Option.some.inj H
          go_wp2
          go_ret
          exact ⟨by first | rfl | (simp [errW_none, errW_some] <;> rfl) | (simp [*, errW_none, errW_some] <;> rfl), by repeat (first | (with_reducible first | exact HB.out | apply below_alloc | apply pw_below_drewN | apply below_drew1 | refine below_set ?_ GE101.out | refine below_set ?_ GE131.out) | exact HB.out)⟩
        · replace c33 := Bool.eq_false_iff.mpr c33
          subst c33
          have H1 : ((laws_toTurns.f kj10 l0_0 l0_1 l0_2 l0_3 a0_4).bind fun bt134 => ((laws_eqTurns.f kj10 t118 t121 t124 t127 t130 bt134.1 bt134.2.1 bt134.2.2.1 bt134.2.2.2.1 bt134.2.2.2.2).bind fun t147 => (if t147 = true then (some true) else (some false)))) = some r := by rw [if_neg (show ¬ (false = true) by decide)] at H; exact H
          clear H
          have H := H1
          clear H1
          replace H := Option.bind_eq_some_iff.mp H
          obtain ⟨⟨t134, t137, t140, t143, t146⟩, A340, H⟩ := H
          replace H : ((laws_eqTurns.f kj10 t118 t121 t124 t127 t130 t134 t137 t140 t143 t146).bind fun t147 => (if t147 = true then (some true) else (some false))) = some r := H
          have A34 := Aside0.mk A340
          clear A340
          replace H := Option.bind_eq_some_iff.mp H
          obtain ⟨t147, A350, H⟩ := H
          replace H : (if t147 = true then (some true) else (some false)) = some r := H
          have A35 := Aside0.mk A350
          clear A350
          by_cases c36 : t147 = true
          · subst c36
            have H1 : (some true) = some r := by rw [if_pos rfl] at H; exact H
            clear H
            have H := H1
            clear H1
            obtain rfl := Option.some.inj H
            try go_wp2
            have n0_ := Aside0.mk (Kd.R_drew HO_132000.out)
            have n1_ := Aside0.mk (Kd.S_drew HO_132001.out)
            have n2_ := Aside0.mk (Kd.R_drew HO_132002.out)
            have n3_ := Aside0.mk (Kd.R_drew HO_132003.out)
            have n4_ := Aside0.mk (blk_drew BK101.out)
            have n5_ := Aside0.mk (blk_drew BK131.out)
            have n6_ := Aside0.mk (below_drew1 HB.out)
            clear HO_132000
            clear HO_132001
            clear HO_132002
            clear HO_132003
            clear BK101
            clear BK131
            clear HB
            have HO_132000 := n0_
            have HO_132001 := n1_
            have HO_132002 := n2_
            have HO_132003 := n3_
            have BK101 := n4_
            have BK131 := n5_
            have HB := n6_
            clear n0_ n1_ n2_ n3_ n4_ n5_ n6_
            refine start_ (n := 5) (S := fun w' => w'.cell? ⟨gb131, 0, none⟩ = some (.slice Ao25 t118.length co25) ∧ w'.cell? ⟨gb131, 1, none⟩ = some (.slice Ao28 t121.length co28) ∧ w'.cell? ⟨gb131, 2, none⟩ = some (.slice Ao29 t124.length co29) ∧ w'.cell? ⟨gb131, 3, none⟩ = some (.slice Ao30 t127.length co30) ∧ w'.cell? ⟨gb131, 4, none⟩ = some (.int .i64 t130) ∧ w'.cell? ⟨gb101, 0, none⟩ = some (.slice A0_0 l0_0.length c0_0) ∧ w'.cell? ⟨gb101, 1, none⟩ = some (.slice A0_1 l0_1.length c0_1) ∧ w'.cell? ⟨gb101, 2, none⟩ = some (.slice A0_2 l0_2.length c0_2) ∧ w'.cell? ⟨gb101, 3, none⟩ = some (.slice A0_3 l0_3.length c0_3) ∧ w'.cell? ⟨gb101, 4, none⟩ = some (.int .i64 a0_4)) (ds := []) #[false, false, false, false, false] (by kernel_rfl) rfl rfl ⟨(blk_cell BK131.out 0).trans rfl, (blk_cell BK131.out 1).trans rfl, (blk_cell BK131.out 2).trans rfl, (blk_cell BK131.out 3).trans rfl, (blk_cell BK131.out 4).trans rfl, (blk_cell BK101.out 0).trans rfl, (blk_cell BK101.out 1).trans rfl, (blk_cell BK101.out 2).trans rfl, (blk_cell BK101.out 3).trans rfl, (blk_cell BK101.out 4).trans rfl⟩ (fun hHeld => ?_)
            generalize wc.drew = w37 at HO_132000 HO_132001 HO_132002 HO_132003 BK101 BK131 HB hHeld ⊢
            refine take_ (i := 0) (N := some 35) (v := ?_) (a' := ?_) #[true, false, false, false, false] rfl rfl (by kernel_rfl) (fun _ _ _ h => h) (Or.inl ⟨by rfl, ?_⟩) hHeld ?_ ?_
            rotate_left
            · rintro w' ⟨s0, s1, s2, s3, s4, s5, s6, s7, s8, s9⟩
              go_simp
              with_reducible rfl
            rotate_left
            · simp only [Act.put, List.setIfInBounds_toArray, List.set_cons_zero, List.set_cons_succ, i64_w, i32_w]
              rfl
            refine take_ (i := 1) (N := some 36) (v := ?_) (a' := ?_) #[true, true, false, false, false] rfl rfl (by kernel_rfl) (fun _ _ _ h => h) (Or.inl ⟨by rfl, ?_⟩) hHeld ?_ ?_
            rotate_left
            · rintro w' ⟨s0, s1, s2, s3, s4, s5, s6, s7, s8, s9⟩
              go_simp
              with_reducible rfl
            rotate_left
            · simp only [Act.put, List.setIfInBounds_toArray, List.set_cons_zero, List.set_cons_succ, i64_w, i32_w]
              rfl
            refine one_ (i := 2) (N := some 37) #[true, true, true, false, false] rfl rfl (by kernel_rfl) (by decide) (fun K hK => ?_)
            refine goes_ Try.func15 (by kernel_rfl) rfl #[.agg #[.slice A0_0 l0_0.length c0_0, .slice A0_1 l0_1.length c0_1, .slice A0_2 l0_2.length c0_2, .slice A0_3 l0_3.length c0_3, .int .i64 a0_4]] (by rfl) rfl rfl (by (try simp only [List.map_toArray, List.map_cons, List.map_nil]); first | done | rfl | (simp only [List.length_drop, List.length_take]; rfl)) ?_
            with_reducible refine (laws_toTurns.calls kj10 _ _ l0_0 _ _ l0_1 _ _ l0_2 _ _ l0_3 a0_4 t134 t137 t140 t143 t146 _ ?side1 ?side2 ?side3 ?side4 ?side5 ?side6 ?side7 ?side8 A34.out).mono ?_
            (case side1 => repeat (first | exact (Kd.C_below HR0_0.out HB.out) | (with_reducible refine Kd.C_alloc ?_ _) | (with_reducible refine Kd.C_drewN ?_ _) | (with_reducible refine Kd.C_drew ?_)))
            (case side2 => exact HC0_0.out)
            (case side3 => repeat (first | exact (Kd.C_below HR0_1.out HB.out) | (with_reducible refine Kd.C_alloc ?_ _) | (with_reducible refine Kd.C_drewN ?_ _) | (with_reducible refine Kd.C_drew ?_)))
            (case side4 => exact HC0_1.out)
            (case side5 => repeat (first | exact (Kd.C_below HR0_2.out HB.out) | (with_reducible refine Kd.C_alloc ?_ _) | (with_reducible refine Kd.C_drewN ?_ _) | (with_reducible refine Kd.C_drew ?_)))
            (case side6 => exact HC0_2.out)
            (case side7 => repeat (first | exact (Kd.C_below HR0_3.out HB.out) | (with_reducible refine Kd.C_alloc ?_ _) | (with_reducible refine Kd.C_drewN ?_ _) | (with_reducible refine Kd.C_drew ?_)))
            (case side8 => exact HC0_3.out)
            rintro e w38 ⟨v135, v138, v141, v144, rfl, ho0, ho1, ho2, ho3, hb⟩
            refine ⟨_, rfl, ?_⟩
            have n0_ := Aside0.mk (Kd.R_mono (Kd.R_told (Kd.R_told (Kd.R_told (Kd.R_old (by (with_reducible repeat (first | apply Kd.R_alloc | apply Kd.R_drewN | apply Kd.R_drew)); exact HO_132000.out) hb) (Kd.R_base ho0)) (Kd.R_base ho2)) (Kd.R_base ho3)) (fun _ h_ => h_.1))
            have n1_ := Aside0.mk (Kd.S_mono (Kd.S_told (Kd.S_told (Kd.S_told (Kd.S_told (Kd.S_old (by (with_reducible repeat (first | apply Kd.S_alloc | apply Kd.S_drewN | apply Kd.S_drew)); exact HO_132001.out) hb) (Kd.R_base ho0)) (Kd.S_base ho1)) (Kd.R_base ho2)) (Kd.R_base ho3)) (fun _ h_ => h_.1))
            have n2_ := Aside0.mk (Kd.R_mono (Kd.R_told (Kd.R_told (Kd.R_told (Kd.R_old (by (with_reducible repeat (first | apply Kd.R_alloc | apply Kd.R_drewN | apply Kd.R_drew)); exact HO_132002.out) hb) (Kd.R_base ho0)) (Kd.R_base ho2)) (Kd.R_base ho3)) (fun _ h_ => h_.1))
            have n3_ := Aside0.mk (Kd.R_mono (Kd.R_told (Kd.R_told (Kd.R_told (Kd.R_old (by (with_reducible repeat (first | apply Kd.R_alloc | apply Kd.R_drewN | apply Kd.R_drew)); exact HO_132003.out) hb) (Kd.R_base ho0)) (Kd.R_base ho2)) (Kd.R_base ho3)) (fun _ h_ => h_.1))
            have n4_ := Aside0.mk (Kd.R_lower (Kd.R_new' (Kd.R_new' (Kd.R_new' ho0 (Kd.R_lt (by (with_reducible repeat (first | apply Kd.R_alloc | apply Kd.R_drewN | apply Kd.R_drew)); exact HO_132000.out))) (Kd.R_lt (by (with_reducible repeat (first | apply Kd.R_alloc | apply Kd.R_drewN | apply Kd.R_drew)); exact HO_132002.out))) (Kd.R_lt (by (with_reducible repeat (first | apply Kd.R_alloc | apply Kd.R_drewN | apply Kd.R_drew)); exact HO_132003.out))) (below_size (by repeat (first | (with_reducible first | exact HB.out | apply below_alloc | apply pw_below_drewN | apply below_drew1 | refine below_set ?_ GE101.out | refine below_set ?_ GE131.out) | exact HB.out))))
            have n5_ := Aside0.mk (Kd.S_lower (Kd.S_new' (Kd.S_new' (Kd.S_new' (Kd.S_new' ho1 (Kd.R_lt (by (with_reducible repeat (first | apply Kd.R_alloc | apply Kd.R_drewN | apply Kd.R_drew)); exact HO_132000.out))) (Kd.S_lt (by (with_reducible repeat (first | apply Kd.S_alloc | apply Kd.S_drewN | apply Kd.S_drew)); exact HO_132001.out))) (Kd.R_lt (by (with_reducible repeat (first | apply Kd.R_alloc | apply Kd.R_drewN | apply Kd.R_drew)); exact HO_132002.out))) (Kd.R_lt (by (with_reducible repeat (first | apply Kd.R_alloc | apply Kd.R_drewN | apply Kd.R_drew)); exact HO_132003.out))) (below_size (by repeat (first | (with_reducible first | exact HB.out | apply below_alloc | apply pw_below_drewN | apply below_drew1 | refine below_set ?_ GE101.out | refine below_set ?_ GE131.out) | exact HB.out))))
            have n6_ := Aside0.mk (Kd.R_lower (Kd.R_new' (Kd.R_new' (Kd.R_new' ho2 (Kd.R_lt (by (with_reducible repeat (first | apply Kd.R_alloc | apply Kd.R_drewN | apply Kd.R_drew)); exact HO_132000.out))) (Kd.R_lt (by (with_reducible repeat (first | apply Kd.R_alloc | apply Kd.R_drewN | apply Kd.R_drew)); exact HO_132002.out))) (Kd.R_lt (by (with_reducible repeat (first | apply Kd.R_alloc | apply Kd.R_drewN | apply Kd.R_drew)); exact HO_132003.out))) (below_size (by repeat (first | (with_reducible first | exact HB.out | apply below_alloc | apply pw_below_drewN | apply below_drew1 | refine below_set ?_ GE101.out | refine below_set ?_ GE131.out) | exact HB.out))))
            have n7_ := Aside0.mk (Kd.R_lower (Kd.R_new' (Kd.R_new' (Kd.R_new' ho3 (Kd.R_lt (by (with_reducible repeat (first | apply Kd.R_alloc | apply Kd.R_drewN | apply Kd.R_drew)); exact HO_132000.out))) (Kd.R_lt (by (with_reducible repeat (first | apply Kd.R_alloc | apply Kd.R_drewN | apply Kd.R_drew)); exact HO_132002.out))) (Kd.R_lt (by (with_reducible repeat (first | apply Kd.R_alloc | apply Kd.R_drewN | apply Kd.R_drew)); exact HO_132003.out))) (below_size (by repeat (first | (with_reducible first | exact HB.out | apply below_alloc | apply pw_below_drewN | apply below_drew1 | refine below_set ?_ GE101.out | refine below_set ?_ GE131.out) | exact HB.out))))
            have n8_ := Aside0.mk (blk_below (g := gb101) (o := .cells #[.slice A0_0 l0_0.length c0_0, .slice A0_1 l0_1.length c0_1, .slice A0_2 l0_2.length c0_2, .slice A0_3 l0_3.length c0_3, .int .i64 a0_4] 34 (0, 0)) (by (with_reducible repeat (first | refine blk_drewN ?_ _ | refine blk_drew ?_ | refine blk_alloc ?_ _)); exact BK101.out) hb)
            have n9_ := Aside0.mk (blk_below (g := gb131) (o := .cells #[.slice Ao25 t118.length co25, .slice Ao28 t121.length co28, .slice Ao29 t124.length co29, .slice Ao30 t127.length co30, .int .i64 t130] 25 (0, 0)) (by (with_reducible repeat (first | refine blk_drewN ?_ _ | refine blk_drew ?_ | refine blk_alloc ?_ _)); exact BK131.out) hb)
            have n10_ := Aside0.mk (below_step (by repeat (first | (with_reducible first | exact HB.out | apply below_alloc | apply pw_below_drewN | apply below_drew1 | refine below_set ?_ GE101.out | refine below_set ?_ GE131.out) | exact HB.out)) hb)
            clear HO_132000
            clear HO_132001
            clear HO_132002
            clear HO_132003
            clear BK101
            clear BK131
            clear HB
            have HO_132000 := n0_
            have HO_132001 := n1_
            have HO_132002 := n2_
            have HO_132003 := n3_
            have HO136 := n4_
            have HO139 := n5_
            have HO142 := n6_
            have HO145 := n7_
            have BK101 := n8_
            have BK131 := n9_
            have HB := n10_
            clear n0_ n1_ n2_ n3_ n4_ n5_ n6_ n7_ n8_ n9_ n10_
            (try clear hb)
            (try clear hb2)
            (try clear hk)
            (try clear hi)
            (try clear ho0)
            (try clear ho1)
            (try clear ho2)
            (try clear ho3)
            obtain ⟨Ao39, co39, eo39⟩ := Kd.R_slice HO136.out
            (first | subst eo39 | (injection eo39 with f1_ f2_ f3_; have f4_ := f1_.symm; have f5_ := f3_.symm; clear f1_ f2_ f3_; subst f4_; subst f5_))
            obtain ⟨Ao40, co40, eo40⟩ := Kd.S_slice HO139.out
            (first | subst eo40 | (injection eo40 with f1_ f2_ f3_; have f4_ := f1_.symm; have f5_ := f3_.symm; clear f1_ f2_ f3_; subst f4_; subst f5_))
            obtain ⟨Ao41, co41, eo41⟩ := Kd.R_slice HO142.out
            (first | subst eo41 | (injection eo41 with f1_ f2_ f3_; have f4_ := f1_.symm; have f5_ := f3_.symm; clear f1_ f2_ f3_; subst f4_; subst f5_))
            obtain ⟨Ao42, co42, eo42⟩ := Kd.R_slice HO145.out
            (first | subst eo42 | (injection eo42 with f1_ f2_ f3_; have f4_ := f1_.symm; have f5_ := f3_.symm; clear f1_ f2_ f3_; subst f4_; subst f5_))
            refine hK.out _ _ ⟨(blk_cell BK131.out 0).trans rfl, (blk_cell BK131.out 1).trans rfl, (blk_cell BK131.out 2).trans rfl, (blk_cell BK131.out 3).trans rfl, (blk_cell BK131.out 4).trans rfl, (blk_cell BK101.out 0).trans rfl, (blk_cell BK101.out 1).trans rfl, (blk_cell BK101.out 2).trans rfl, (blk_cell BK101.out 3).trans rfl, (blk_cell BK101.out 4).trans rfl⟩ (fun hHeld => ?_)
            clear hK K
            refine norm_ (a' := ?_) ?_ ?_
            rotate_left
            · show Act.put _ (some 37) _ = _
              simp only [Act.put, List.setIfInBounds_toArray, List.set_cons_zero, List.set_cons_succ, i64_w, i32_w]
              rfl
            refine one_ (i := 3) (N := some 38) #[true, true, true, true, false] rfl rfl (by kernel_rfl) (by decide) (fun K hK => ?_)
            refine goes_ Try.func8 (by kernel_rfl) rfl #[.agg #[.slice Ao25 t118.length co25, .slice Ao28 t121.length co28, .slice Ao29 t124.length co29, .slice Ao30 t127.length co30, .int .i64 t130], .agg #[.slice Ao39 t134.length co39, .slice Ao40 t137.length co40, .slice Ao41 t140.length co41, .slice Ao42 t143.length co42, .int .i64 t146]] (by rfl) rfl rfl (by (try simp only [List.map_toArray, List.map_cons, List.map_nil]); first | done | rfl | (simp only [List.length_drop, List.length_take]; rfl)) ?_
            with_reducible refine (laws_eqTurns.calls kj10 _ _ t118 _ _ t121 _ _ t124 _ _ t127 t130 _ _ t134 _ _ t137 _ _ t140 _ _ t143 t146 true _ ?side1 ?side2 ?side3 ?side4 ?side5 ?side6 ?side7 ?side8 ?side9 ?side10 ?side11 ?side12 ?side13 ?side14 ?side15 ?side16 A35.out).mono ?_
            (case side1 => repeat (first | exact (Kd.R_reads' HO_132000.out).2.2 | (with_reducible refine Kd.C_alloc ?_ _) | (with_reducible refine Kd.C_drewN ?_ _) | (with_reducible refine Kd.C_drew ?_)))
            (case side2 => exact (Kd.R_reads' HO_132000.out).2.1)
            (case side3 => repeat (first | exact (Kd.S_reads' HO_132001.out).2.2 | (with_reducible refine Kd.C_alloc ?_ _) | (with_reducible refine Kd.C_drewN ?_ _) | (with_reducible refine Kd.C_drew ?_)))
            (case side4 => exact (Kd.S_reads' HO_132001.out).2.1)
            (case side5 => repeat (first | exact (Kd.R_reads' HO_132002.out).2.2 | (with_reducible refine Kd.C_alloc ?_ _) | (with_reducible refine Kd.C_drewN ?_ _) | (with_reducible refine Kd.C_drew ?_)))
            (case side6 => exact (Kd.R_reads' HO_132002.out).2.1)
            (case side7 => repeat (first | exact (Kd.R_reads' HO_132003.out).2.2 | (with_reducible refine Kd.C_alloc ?_ _) | (with_reducible refine Kd.C_drewN ?_ _) | (with_reducible refine Kd.C_drew ?_)))
            (case side8 => exact (Kd.R_reads' HO_132003.out).2.1)
            (case side9 => repeat (first | exact (Kd.R_reads' HO136.out).2.2 | (with_reducible refine Kd.C_alloc ?_ _) | (with_reducible refine Kd.C_drewN ?_ _) | (with_reducible refine Kd.C_drew ?_)))
            (case side10 => exact (Kd.R_reads' HO136.out).2.1)
            (case side11 => repeat (first | exact (Kd.S_reads' HO139.out).2.2 | (with_reducible refine Kd.C_alloc ?_ _) | (with_reducible refine Kd.C_drewN ?_ _) | (with_reducible refine Kd.C_drew ?_)))
            (case side12 => exact (Kd.S_reads' HO139.out).2.1)
            (case side13 => repeat (first | exact (Kd.R_reads' HO142.out).2.2 | (with_reducible refine Kd.C_alloc ?_ _) | (with_reducible refine Kd.C_drewN ?_ _) | (with_reducible refine Kd.C_drew ?_)))
            (case side14 => exact (Kd.R_reads' HO142.out).2.1)
            (case side15 => repeat (first | exact (Kd.R_reads' HO145.out).2.2 | (with_reducible refine Kd.C_alloc ?_ _) | (with_reducible refine Kd.C_drewN ?_ _) | (with_reducible refine Kd.C_drew ?_)))
            (case side16 => exact (Kd.R_reads' HO145.out).2.1)
            rintro e w43 ⟨rfl, hb⟩
            refine ⟨_, rfl, ?_⟩
            have n0_ := Aside0.mk (Kd.R_below (by (with_reducible repeat (first | apply Kd.R_alloc | apply Kd.R_drewN | apply Kd.R_drew)); exact HO_132000.out) hb)
            have n1_ := Aside0.mk (Kd.S_below (by (with_reducible repeat (first | apply Kd.S_alloc | apply Kd.S_drewN | apply Kd.S_drew)); exact HO_132001.out) hb)
            have n2_ := Aside0.mk (Kd.R_below (by (with_reducible repeat (first | apply Kd.R_alloc | apply Kd.R_drewN | apply Kd.R_drew)); exact HO_132002.out) hb)
            have n3_ := Aside0.mk (Kd.R_below (by (with_reducible repeat (first | apply Kd.R_alloc | apply Kd.R_drewN | apply Kd.R_drew)); exact HO_132003.out) hb)
            have n4_ := Aside0.mk (Kd.R_below (by (with_reducible repeat (first | apply Kd.R_alloc | apply Kd.R_drewN | apply Kd.R_drew)); exact HO136.out) hb)
            have n5_ := Aside0.mk (Kd.S_below (by (with_reducible repeat (first | apply Kd.S_alloc | apply Kd.S_drewN | apply Kd.S_drew)); exact HO139.out) hb)
            have n6_ := Aside0.mk (Kd.R_below (by (with_reducible repeat (first | apply Kd.R_alloc | apply Kd.R_drewN | apply Kd.R_drew)); exact HO142.out) hb)
            have n7_ := Aside0.mk (Kd.R_below (by (with_reducible repeat (first | apply Kd.R_alloc | apply Kd.R_drewN | apply Kd.R_drew)); exact HO145.out) hb)
            have n8_ := Aside0.mk (blk_below (g := gb101) (o := .cells #[.slice A0_0 l0_0.length c0_0, .slice A0_1 l0_1.length c0_1, .slice A0_2 l0_2.length c0_2, .slice A0_3 l0_3.length c0_3, .int .i64 a0_4] 34 (0, 0)) (by (with_reducible repeat (first | refine blk_drewN ?_ _ | refine blk_drew ?_ | refine blk_alloc ?_ _)); exact BK101.out) hb)
            have n9_ := Aside0.mk (blk_below (g := gb131) (o := .cells #[.slice Ao25 t118.length co25, .slice Ao28 t121.length co28, .slice Ao29 t124.length co29, .slice Ao30 t127.length co30, .int .i64 t130] 25 (0, 0)) (by (with_reducible repeat (first | refine blk_drewN ?_ _ | refine blk_drew ?_ | refine blk_alloc ?_ _)); exact BK131.out) hb)
            have n10_ := Aside0.mk (below_step (by repeat (first | (with_reducible first | exact HB.out | apply below_alloc | apply pw_below_drewN | apply below_drew1 | refine below_set ?_ GE101.out | refine below_set ?_ GE131.out) | exact HB.out)) hb)
            clear HO_132000
            clear HO_132001
            clear HO_132002
            clear HO_132003
            clear HO136
            clear HO139
            clear HO142
            clear HO145
            clear BK101
            clear BK131
            clear HB
            have HO_132000 := n0_
            have HO_132001 := n1_
            have HO_132002 := n2_
            have HO_132003 := n3_
            have HO136 := n4_
            have HO139 := n5_
            have HO142 := n6_
            have HO145 := n7_
            have BK101 := n8_
            have BK131 := n9_
            have HB := n10_
            clear n0_ n1_ n2_ n3_ n4_ n5_ n6_ n7_ n8_ n9_ n10_
            (try clear hb)
            (try clear hb2)
            (try clear hk)
            (try clear hi)
            refine hK.out _ _ ⟨(blk_cell BK131.out 0).trans rfl, (blk_cell BK131.out 1).trans rfl, (blk_cell BK131.out 2).trans rfl, (blk_cell BK131.out 3).trans rfl, (blk_cell BK131.out 4).trans rfl, (blk_cell BK101.out 0).trans rfl, (blk_cell BK101.out 1).trans rfl, (blk_cell BK101.out 2).trans rfl, (blk_cell BK101.out 3).trans rfl, (blk_cell BK101.out 4).trans rfl⟩ (fun hHeld => ?_)
            clear hK K
            refine norm_ (a' := ?_) ?_ ?_
            rotate_left
            · show Act.put _ (some 38) _ = _
              simp only [Act.put, List.setIfInBounds_toArray, List.set_cons_zero, List.set_cons_succ, i64_w, i32_w]
              rfl
            refine pure_ (i := 4) (N := some 39) (v := ?_) (a' := ?_) #[true, true, true, true, true] rfl rfl (by kernel_rfl) (fun _ _ _ h => h) (Or.inl ⟨by rfl, ?_⟩) ?_ ?_
            rotate_left
            · intro w'
              go_simp
              with_reducible rfl
            rotate_left
            · simp only [Act.put, List.setIfInBounds_toArray, List.set_cons_zero, List.set_cons_succ, i64_w, i32_w]
              rfl
            refine done_ (by kernel_rfl) ?_
            try go_wp2
            go_ret
            exact ⟨by first | rfl | (simp [errW_none, errW_some] <;> rfl) | (simp [*, errW_none, errW_some] <;> rfl), by repeat (first | (with_reducible first | exact HB.out | apply below_alloc | apply pw_below_drewN | apply below_drew1 | refine below_set ?_ GE101.out | refine below_set ?_ GE131.out) | exact HB.out)⟩
          · replace c36 := Bool.eq_false_iff.mpr c36
            subst c36
            have H1 : (some false) = some r := by rw [if_neg (show ¬ (false = true) by decide)] at H; exact H
            clear H
            have H := H1
            clear H1
            obtain rfl := Option.some.inj H
            try go_wp2
            have n0_ := Aside0.mk (Kd.R_drew HO_132000.out)
            have n1_ := Aside0.mk (Kd.S_drew HO_132001.out)
            have n2_ := Aside0.mk (Kd.R_drew HO_132002.out)
            have n3_ := Aside0.mk (Kd.R_drew HO_132003.out)
            have n4_ := Aside0.mk (blk_drew BK101.out)
            have n5_ := Aside0.mk (blk_drew BK131.out)
            have n6_ := Aside0.mk (below_drew1 HB.out)
            clear HO_132000
            clear HO_132001
            clear HO_132002
            clear HO_132003
            clear BK101
            clear BK131
            clear HB
            have HO_132000 := n0_
            have HO_132001 := n1_
            have HO_132002 := n2_
            have HO_132003 := n3_
            have BK101 := n4_
            have BK131 := n5_
            have HB := n6_
            clear n0_ n1_ n2_ n3_ n4_ n5_ n6_
            refine start_ (n := 5) (S := fun w' => w'.cell? ⟨gb131, 0, none⟩ = some (.slice Ao25 t118.length co25) ∧ w'.cell? ⟨gb131, 1, none⟩ = some (.slice Ao28 t121.length co28) ∧ w'.cell? ⟨gb131, 2, none⟩ = some (.slice Ao29 t124.length co29) ∧ w'.cell? ⟨gb131, 3, none⟩ = some (.slice Ao30 t127.length co30) ∧ w'.cell? ⟨gb131, 4, none⟩ = some (.int .i64 t130) ∧ w'.cell? ⟨gb101, 0, none⟩ = some (.slice A0_0 l0_0.length c0_0) ∧ w'.cell? ⟨gb101, 1, none⟩ = some (.slice A0_1 l0_1.length c0_1) ∧ w'.cell? ⟨gb101, 2, none⟩ = some (.slice A0_2 l0_2.length c0_2) ∧ w'.cell? ⟨gb101, 3, none⟩ = some (.slice A0_3 l0_3.length c0_3) ∧ w'.cell? ⟨gb101, 4, none⟩ = some (.int .i64 a0_4)) (ds := []) #[false, false, false, false, false] (by kernel_rfl) rfl rfl ⟨(blk_cell BK131.out 0).trans rfl, (blk_cell BK131.out 1).trans rfl, (blk_cell BK131.out 2).trans rfl, (blk_cell BK131.out 3).trans rfl, (blk_cell BK131.out 4).trans rfl, (blk_cell BK101.out 0).trans rfl, (blk_cell BK101.out 1).trans rfl, (blk_cell BK101.out 2).trans rfl, (blk_cell BK101.out 3).trans rfl, (blk_cell BK101.out 4).trans rfl⟩ (fun hHeld => ?_)
            generalize wc.drew = w44 at HO_132000 HO_132001 HO_132002 HO_132003 BK101 BK131 HB hHeld ⊢
            refine take_ (i := 0) (N := some 35) (v := ?_) (a' := ?_) #[true, false, false, false, false] rfl rfl (by kernel_rfl) (fun _ _ _ h => h) (Or.inl ⟨by rfl, ?_⟩) hHeld ?_ ?_
            rotate_left
            · rintro w' ⟨s0, s1, s2, s3, s4, s5, s6, s7, s8, s9⟩
              go_simp
              with_reducible rfl
            rotate_left
            · simp only [Act.put, List.setIfInBounds_toArray, List.set_cons_zero, List.set_cons_succ, i64_w, i32_w]
              rfl
            refine take_ (i := 1) (N := some 36) (v := ?_) (a' := ?_) #[true, true, false, false, false] rfl rfl (by kernel_rfl) (fun _ _ _ h => h) (Or.inl ⟨by rfl, ?_⟩) hHeld ?_ ?_
            rotate_left
            · rintro w' ⟨s0, s1, s2, s3, s4, s5, s6, s7, s8, s9⟩
              go_simp
              with_reducible rfl
            rotate_left
            · simp only [Act.put, List.setIfInBounds_toArray, List.set_cons_zero, List.set_cons_succ, i64_w, i32_w]
              rfl
            refine one_ (i := 2) (N := some 37) #[true, true, true, false, false] rfl rfl (by kernel_rfl) (by decide) (fun K hK => ?_)
            refine goes_ Try.func15 (by kernel_rfl) rfl #[.agg #[.slice A0_0 l0_0.length c0_0, .slice A0_1 l0_1.length c0_1, .slice A0_2 l0_2.length c0_2, .slice A0_3 l0_3.length c0_3, .int .i64 a0_4]] (by rfl) rfl rfl (by (try simp only [List.map_toArray, List.map_cons, List.map_nil]); first | done | rfl | (simp only [List.length_drop, List.length_take]; rfl)) ?_
            with_reducible refine (laws_toTurns.calls kj10 _ _ l0_0 _ _ l0_1 _ _ l0_2 _ _ l0_3 a0_4 t134 t137 t140 t143 t146 _ ?side1 ?side2 ?side3 ?side4 ?side5 ?side6 ?side7 ?side8 A34.out).mono ?_
            (case side1 => repeat (first | exact (Kd.C_below HR0_0.out HB.out) | (with_reducible refine Kd.C_alloc ?_ _) | (with_reducible refine Kd.C_drewN ?_ _) | (with_reducible refine Kd.C_drew ?_)))
            (case side2 => exact HC0_0.out)
            (case side3 => repeat (first | exact (Kd.C_below HR0_1.out HB.out) | (with_reducible refine Kd.C_alloc ?_ _) | (with_reducible refine Kd.C_drewN ?_ _) | (with_reducible refine Kd.C_drew ?_)))
            (case side4 => exact HC0_1.out)
            (case side5 => repeat (first | exact (Kd.C_below HR0_2.out HB.out) | (with_reducible refine Kd.C_alloc ?_ _) | (with_reducible refine Kd.C_drewN ?_ _) | (with_reducible refine Kd.C_drew ?_)))
            (case side6 => exact HC0_2.out)
            (case side7 => repeat (first | exact (Kd.C_below HR0_3.out HB.out) | (with_reducible refine Kd.C_alloc ?_ _) | (with_reducible refine Kd.C_drewN ?_ _) | (with_reducible refine Kd.C_drew ?_)))
            (case side8 => exact HC0_3.out)
            rintro e w45 ⟨v135, v138, v141, v144, rfl, ho0, ho1, ho2, ho3, hb⟩
            refine ⟨_, rfl, ?_⟩
            have n0_ := Aside0.mk (Kd.R_mono (Kd.R_told (Kd.R_told (Kd.R_told (Kd.R_old (by (with_reducible repeat (first | apply Kd.R_alloc | apply Kd.R_drewN | apply Kd.R_drew)); exact HO_132000.out) hb) (Kd.R_base ho0)) (Kd.R_base ho2)) (Kd.R_base ho3)) (fun _ h_ => h_.1))
            have n1_ := Aside0.mk (Kd.S_mono (Kd.S_told (Kd.S_told (Kd.S_told (Kd.S_told (Kd.S_old (by (with_reducible repeat (first | apply Kd.S_alloc | apply Kd.S_drewN | apply Kd.S_drew)); exact HO_132001.out) hb) (Kd.R_base ho0)) (Kd.S_base ho1)) (Kd.R_base ho2)) (Kd.R_base ho3)) (fun _ h_ => h_.1))
            have n2_ := Aside0.mk (Kd.R_mono (Kd.R_told (Kd.R_told (Kd.R_told (Kd.R_old (by (with_reducible repeat (first | apply Kd.R_alloc | apply Kd.R_drewN | apply Kd.R_drew)); exact HO_132002.out) hb) (Kd.R_base ho0)) (Kd.R_base ho2)) (Kd.R_base ho3)) (fun _ h_ => h_.1))
            have n3_ := Aside0.mk (Kd.R_mono (Kd.R_told (Kd.R_told (Kd.R_told (Kd.R_old (by (with_reducible repeat (first | apply Kd.R_alloc | apply Kd.R_drewN | apply Kd.R_drew)); exact HO_132003.out) hb) (Kd.R_base ho0)) (Kd.R_base ho2)) (Kd.R_base ho3)) (fun _ h_ => h_.1))
            have n4_ := Aside0.mk (Kd.R_lower (Kd.R_new' (Kd.R_new' (Kd.R_new' ho0 (Kd.R_lt (by (with_reducible repeat (first | apply Kd.R_alloc | apply Kd.R_drewN | apply Kd.R_drew)); exact HO_132000.out))) (Kd.R_lt (by (with_reducible repeat (first | apply Kd.R_alloc | apply Kd.R_drewN | apply Kd.R_drew)); exact HO_132002.out))) (Kd.R_lt (by (with_reducible repeat (first | apply Kd.R_alloc | apply Kd.R_drewN | apply Kd.R_drew)); exact HO_132003.out))) (below_size (by repeat (first | (with_reducible first | exact HB.out | apply below_alloc | apply pw_below_drewN | apply below_drew1 | refine below_set ?_ GE101.out | refine below_set ?_ GE131.out) | exact HB.out))))
            have n5_ := Aside0.mk (Kd.S_lower (Kd.S_new' (Kd.S_new' (Kd.S_new' (Kd.S_new' ho1 (Kd.R_lt (by (with_reducible repeat (first | apply Kd.R_alloc | apply Kd.R_drewN | apply Kd.R_drew)); exact HO_132000.out))) (Kd.S_lt (by (with_reducible repeat (first | apply Kd.S_alloc | apply Kd.S_drewN | apply Kd.S_drew)); exact HO_132001.out))) (Kd.R_lt (by (with_reducible repeat (first | apply Kd.R_alloc | apply Kd.R_drewN | apply Kd.R_drew)); exact HO_132002.out))) (Kd.R_lt (by (with_reducible repeat (first | apply Kd.R_alloc | apply Kd.R_drewN | apply Kd.R_drew)); exact HO_132003.out))) (below_size (by repeat (first | (with_reducible first | exact HB.out | apply below_alloc | apply pw_below_drewN | apply below_drew1 | refine below_set ?_ GE101.out | refine below_set ?_ GE131.out) | exact HB.out))))
            have n6_ := Aside0.mk (Kd.R_lower (Kd.R_new' (Kd.R_new' (Kd.R_new' ho2 (Kd.R_lt (by (with_reducible repeat (first | apply Kd.R_alloc | apply Kd.R_drewN | apply Kd.R_drew)); exact HO_132000.out))) (Kd.R_lt (by (with_reducible repeat (first | apply Kd.R_alloc | apply Kd.R_drewN | apply Kd.R_drew)); exact HO_132002.out))) (Kd.R_lt (by (with_reducible repeat (first | apply Kd.R_alloc | apply Kd.R_drewN | apply Kd.R_drew)); exact HO_132003.out))) (below_size (by repeat (first | (with_reducible first | exact HB.out | apply below_alloc | apply pw_below_drewN | apply below_drew1 | refine below_set ?_ GE101.out | refine below_set ?_ GE131.out) | exact HB.out))))
            have n7_ := Aside0.mk (Kd.R_lower (Kd.R_new' (Kd.R_new' (Kd.R_new' ho3 (Kd.R_lt (by (with_reducible repeat (first | apply Kd.R_alloc | apply Kd.R_drewN | apply Kd.R_drew)); exact HO_132000.out))) (Kd.R_lt (by (with_reducible repeat (first | apply Kd.R_alloc | apply Kd.R_drewN | apply Kd.R_drew)); exact HO_132002.out))) (Kd.R_lt (by (with_reducible repeat (first | apply Kd.R_alloc | apply Kd.R_drewN | apply Kd.R_drew)); exact HO_132003.out))) (below_size (by repeat (first | (with_reducible first | exact HB.out | apply below_alloc | apply pw_below_drewN | apply below_drew1 | refine below_set ?_ GE101.out | refine below_set ?_ GE131.out) | exact HB.out))))
            have n8_ := Aside0.mk (blk_below (g := gb101) (o := .cells #[.slice A0_0 l0_0.length c0_0, .slice A0_1 l0_1.length c0_1, .slice A0_2 l0_2.length c0_2, .slice A0_3 l0_3.length c0_3, .int .i64 a0_4] 34 (0, 0)) (by (with_reducible repeat (first | refine blk_drewN ?_ _ | refine blk_drew ?_ | refine blk_alloc ?_ _)); exact BK101.out) hb)
            have n9_ := Aside0.mk (blk_below (g := gb131) (o := .cells #[.slice Ao25 t118.length co25, .slice Ao28 t121.length co28, .slice Ao29 t124.length co29, .slice Ao30 t127.length co30, .int .i64 t130] 25 (0, 0)) (by (with_reducible repeat (first | refine blk_drewN ?_ _ | refine blk_drew ?_ | refine blk_alloc ?_ _)); exact BK131.out) hb)
            have n10_ := Aside0.mk (below_step (by repeat (first | (with_reducible first | exact HB.out | apply below_alloc | apply pw_below_drewN | apply below_drew1 | refine below_set ?_ GE101.out | refine below_set ?_ GE131.out) | exact HB.out)) hb)
            clear HO_132000
            clear HO_132001
            clear HO_132002
            clear HO_132003
            clear BK101
            clear BK131
            clear HB
            have HO_132000 := n0_
            have HO_132001 := n1_
            have HO_132002 := n2_
            have HO_132003 := n3_
            have HO136 := n4_
            have HO139 := n5_
            have HO142 := n6_
            have HO145 := n7_
            have BK101 := n8_
            have BK131 := n9_
            have HB := n10_
            clear n0_ n1_ n2_ n3_ n4_ n5_ n6_ n7_ n8_ n9_ n10_
            (try clear hb)
            (try clear hb2)
            (try clear hk)
            (try clear hi)
            (try clear ho0)
            (try clear ho1)
            (try clear ho2)
            (try clear ho3)
            obtain ⟨Ao46, co46, eo46⟩ := Kd.R_slice HO136.out
            (first | subst eo46 | (injection eo46 with f1_ f2_ f3_; have f4_ := f1_.symm; have f5_ := f3_.symm; clear f1_ f2_ f3_; subst f4_; subst f5_))
            obtain ⟨Ao47, co47, eo47⟩ := Kd.S_slice HO139.out
            (first | subst eo47 | (injection eo47 with f1_ f2_ f3_; have f4_ := f1_.symm; have f5_ := f3_.symm; clear f1_ f2_ f3_; subst f4_; subst f5_))
            obtain ⟨Ao48, co48, eo48⟩ := Kd.R_slice HO142.out
            (first | subst eo48 | (injection eo48 with f1_ f2_ f3_; have f4_ := f1_.symm; have f5_ := f3_.symm; clear f1_ f2_ f3_; subst f4_; subst f5_))
            obtain ⟨Ao49, co49, eo49⟩ := Kd.R_slice HO145.out
            (first | subst eo49 | (injection eo49 with f1_ f2_ f3_; have f4_ := f1_.symm; have f5_ := f3_.symm; clear f1_ f2_ f3_; subst f4_; subst f5_))
            refine hK.out _ _ ⟨(blk_cell BK131.out 0).trans rfl, (blk_cell BK131.out 1).trans rfl, (blk_cell BK131.out 2).trans rfl, (blk_cell BK131.out 3).trans rfl, (blk_cell BK131.out 4).trans rfl, (blk_cell BK101.out 0).trans rfl, (blk_cell BK101.out 1).trans rfl, (blk_cell BK101.out 2).trans rfl, (blk_cell BK101.out 3).trans rfl, (blk_cell BK101.out 4).trans rfl⟩ (fun hHeld => ?_)
            clear hK K
            refine norm_ (a' := ?_) ?_ ?_
            rotate_left
            · show Act.put _ (some 37) _ = _
              simp only [Act.put, List.setIfInBounds_toArray, List.set_cons_zero, List.set_cons_succ, i64_w, i32_w]
              rfl
            refine one_ (i := 3) (N := some 38) #[true, true, true, true, false] rfl rfl (by kernel_rfl) (by decide) (fun K hK => ?_)
            refine goes_ Try.func8 (by kernel_rfl) rfl #[.agg #[.slice Ao25 t118.length co25, .slice Ao28 t121.length co28, .slice Ao29 t124.length co29, .slice Ao30 t127.length co30, .int .i64 t130], .agg #[.slice Ao46 t134.length co46, .slice Ao47 t137.length co47, .slice Ao48 t140.length co48, .slice Ao49 t143.length co49, .int .i64 t146]] (by rfl) rfl rfl (by (try simp only [List.map_toArray, List.map_cons, List.map_nil]); first | done | rfl | (simp only [List.length_drop, List.length_take]; rfl)) ?_
            with_reducible refine (laws_eqTurns.calls kj10 _ _ t118 _ _ t121 _ _ t124 _ _ t127 t130 _ _ t134 _ _ t137 _ _ t140 _ _ t143 t146 false _ ?side1 ?side2 ?side3 ?side4 ?side5 ?side6 ?side7 ?side8 ?side9 ?side10 ?side11 ?side12 ?side13 ?side14 ?side15 ?side16 A35.out).mono ?_
            (case side1 => repeat (first | exact (Kd.R_reads' HO_132000.out).2.2 | (with_reducible refine Kd.C_alloc ?_ _) | (with_reducible refine Kd.C_drewN ?_ _) | (with_reducible refine Kd.C_drew ?_)))
            (case side2 => exact (Kd.R_reads' HO_132000.out).2.1)
            (case side3 => repeat (first | exact (Kd.S_reads' HO_132001.out).2.2 | (with_reducible refine Kd.C_alloc ?_ _) | (with_reducible refine Kd.C_drewN ?_ _) | (with_reducible refine Kd.C_drew ?_)))
            (case side4 => exact (Kd.S_reads' HO_132001.out).2.1)
            (case side5 => repeat (first | exact (Kd.R_reads' HO_132002.out).2.2 | (with_reducible refine Kd.C_alloc ?_ _) | (with_reducible refine Kd.C_drewN ?_ _) | (with_reducible refine Kd.C_drew ?_)))
            (case side6 => exact (Kd.R_reads' HO_132002.out).2.1)
            (case side7 => repeat (first | exact (Kd.R_reads' HO_132003.out).2.2 | (with_reducible refine Kd.C_alloc ?_ _) | (with_reducible refine Kd.C_drewN ?_ _) | (with_reducible refine Kd.C_drew ?_)))
            (case side8 => exact (Kd.R_reads' HO_132003.out).2.1)
            (case side9 => repeat (first | exact (Kd.R_reads' HO136.out).2.2 | (with_reducible refine Kd.C_alloc ?_ _) | (with_reducible refine Kd.C_drewN ?_ _) | (with_reducible refine Kd.C_drew ?_)))
            (case side10 => exact (Kd.R_reads' HO136.out).2.1)
            (case side11 => repeat (first | exact (Kd.S_reads' HO139.out).2.2 | (with_reducible refine Kd.C_alloc ?_ _) | (with_reducible refine Kd.C_drewN ?_ _) | (with_reducible refine Kd.C_drew ?_)))
            (case side12 => exact (Kd.S_reads' HO139.out).2.1)
            (case side13 => repeat (first | exact (Kd.R_reads' HO142.out).2.2 | (with_reducible refine Kd.C_alloc ?_ _) | (with_reducible refine Kd.C_drewN ?_ _) | (with_reducible refine Kd.C_drew ?_)))
            (case side14 => exact (Kd.R_reads' HO142.out).2.1)
            (case side15 => repeat (first | exact (Kd.R_reads' HO145.out).2.2 | (with_reducible refine Kd.C_alloc ?_ _) | (with_reducible refine Kd.C_drewN ?_ _) | (with_reducible refine Kd.C_drew ?_)))
            (case side16 => exact (Kd.R_reads' HO145.out).2.1)
            rintro e w50 ⟨rfl, hb⟩
            refine ⟨_, rfl, ?_⟩
            have n0_ := Aside0.mk (Kd.R_below (by (with_reducible repeat (first | apply Kd.R_alloc | apply Kd.R_drewN | apply Kd.R_drew)); exact HO_132000.out) hb)
            have n1_ := Aside0.mk (Kd.S_below (by (with_reducible repeat (first | apply Kd.S_alloc | apply Kd.S_drewN | apply Kd.S_drew)); exact HO_132001.out) hb)
            have n2_ := Aside0.mk (Kd.R_below (by (with_reducible repeat (first | apply Kd.R_alloc | apply Kd.R_drewN | apply Kd.R_drew)); exact HO_132002.out) hb)
            have n3_ := Aside0.mk (Kd.R_below (by (with_reducible repeat (first | apply Kd.R_alloc | apply Kd.R_drewN | apply Kd.R_drew)); exact HO_132003.out) hb)
            have n4_ := Aside0.mk (Kd.R_below (by (with_reducible repeat (first | apply Kd.R_alloc | apply Kd.R_drewN | apply Kd.R_drew)); exact HO136.out) hb)
            have n5_ := Aside0.mk (Kd.S_below (by (with_reducible repeat (first | apply Kd.S_alloc | apply Kd.S_drewN | apply Kd.S_drew)); exact HO139.out) hb)
            have n6_ := Aside0.mk (Kd.R_below (by (with_reducible repeat (first | apply Kd.R_alloc | apply Kd.R_drewN | apply Kd.R_drew)); exact HO142.out) hb)
            have n7_ := Aside0.mk (Kd.R_below (by (with_reducible repeat (first | apply Kd.R_alloc | apply Kd.R_drewN | apply Kd.R_drew)); exact HO145.out) hb)
            have n8_ := Aside0.mk (blk_below (g := gb101) (o := .cells #[.slice A0_0 l0_0.length c0_0, .slice A0_1 l0_1.length c0_1, .slice A0_2 l0_2.length c0_2, .slice A0_3 l0_3.length c0_3, .int .i64 a0_4] 34 (0, 0)) (by (with_reducible repeat (first | refine blk_drewN ?_ _ | refine blk_drew ?_ | refine blk_alloc ?_ _)); exact BK101.out) hb)
            have n9_ := Aside0.mk (blk_below (g := gb131) (o := .cells #[.slice Ao25 t118.length co25, .slice Ao28 t121.length co28, .slice Ao29 t124.length co29, .slice Ao30 t127.length co30, .int .i64 t130] 25 (0, 0)) (by (with_reducible repeat (first | refine blk_drewN ?_ _ | refine blk_drew ?_ | refine blk_alloc ?_ _)); exact BK131.out) hb)
            have n10_ := Aside0.mk (below_step (by repeat (first | (with_reducible first | exact HB.out | apply below_alloc | apply pw_below_drewN | apply below_drew1 | refine below_set ?_ GE101.out | refine below_set ?_ GE131.out) | exact HB.out)) hb)
            clear HO_132000
            clear HO_132001
            clear HO_132002
            clear HO_132003
            clear HO136
            clear HO139
            clear HO142
            clear HO145
            clear BK101
            clear BK131
            clear HB
            have HO_132000 := n0_
            have HO_132001 := n1_
            have HO_132002 := n2_
            have HO_132003 := n3_
            have HO136 := n4_
            have HO139 := n5_
            have HO142 := n6_
            have HO145 := n7_
            have BK101 := n8_
            have BK131 := n9_
            have HB := n10_
            clear n0_ n1_ n2_ n3_ n4_ n5_ n6_ n7_ n8_ n9_ n10_
            (try clear hb)
            (try clear hb2)
            (try clear hk)
            (try clear hi)
            refine hK.out _ _ ⟨(blk_cell BK131.out 0).trans rfl, (blk_cell BK131.out 1).trans rfl, (blk_cell BK131.out 2).trans rfl, (blk_cell BK131.out 3).trans rfl, (blk_cell BK131.out 4).trans rfl, (blk_cell BK101.out 0).trans rfl, (blk_cell BK101.out 1).trans rfl, (blk_cell BK101.out 2).trans rfl, (blk_cell BK101.out 3).trans rfl, (blk_cell BK101.out 4).trans rfl⟩ (fun hHeld => ?_)
            clear hK K
            refine norm_ (a' := ?_) ?_ ?_
            rotate_left
            · show Act.put _ (some 38) _ = _
              simp only [Act.put, List.setIfInBounds_toArray, List.set_cons_zero, List.set_cons_succ, i64_w, i32_w]
              rfl
            refine pure_ (i := 4) (N := some 39) (v := ?_) (a' := ?_) #[true, true, true, true, true] rfl rfl (by kernel_rfl) (fun _ _ _ h => h) (Or.inl ⟨by rfl, ?_⟩) ?_ ?_
            rotate_left
            · intro w'
              go_simp
              with_reducible rfl
            rotate_left
            · simp only [Act.put, List.setIfInBounds_toArray, List.set_cons_zero, List.set_cons_succ, i64_w, i32_w]
              rfl
            refine done_ (by kernel_rfl) ?_
            try go_wp2
            go_ret
            exact ⟨by first | rfl | (simp [errW_none, errW_some] <;> rfl) | (simp [*, errW_none, errW_some] <;> rfl), by repeat (first | (with_reducible first | exact HB.out | apply below_alloc | apply pw_below_drewN | apply below_drew1 | refine below_set ?_ GE101.out | refine below_set ?_ GE131.out) | exact HB.out)⟩

end Go.Proofs.Ytpdpdfccgeegaaa.P

/- Reading of arguments by kind: what the row's reader can read is a value of the printed kind. -/
namespace Go.Proofs.Ytpdpdfccgeegaaa.Opn
open Go.RowKit Go.Proofs.YtpdpdfccgeegaaaW.PrintWords

structure Opens {α : Type} (P : Program) (t : TypeId) (d : Kd α) (wf : α → Prop) : Prop where
  out : ∀ {H : Type} (enc : TypeId × Value → H) (W : World) (fuel : Nat) (cs : List Value) (x : DataW H × List MemPlace),
    DataW.trod enc P W 0 (fun _ => true) true fuel t cs = some x → ∃ y, d.K W y cs ∧ wf y

def wfI (x : Int) : Prop := -9223372036854775808 ≤ x ∧ x ≤ 9223372036854775807
def wfB (_ : Bool) : Prop := True
def wfS (x : ByteArray) : Prop := x.size ≤ 9223372036854775807
def wfL {α : Type} (wf : α → Prop) (l : List α) : Prop := l.length ≤ 9223372036854775807 ∧ ∀ x, x ∈ l → wf x

theorem wfI_of {x : Int} (hw : (Lit.int .i64 x).wf = true) : wfI x := by
  simp [Lit.wf] at hw
  exact ⟨by simpa [IntKind.min, IntKind.signed, IntKind.bits] using hw.1, by simpa [IntKind.max, IntKind.signed, IntKind.bits] using hw.2⟩
theorem opens_int {P : Program} {t : TypeId} (h : P.underlying t = some (.int .i64)) : Opens P t (Kd.int .i64) wfI := by
  refine ⟨?_⟩
  intro H enc W fuel cs x hx
  obtain ⟨n, rfl, _, hw⟩ := DataW.trod_int h hx
  exact ⟨n, rfl, wfI_of hw⟩
theorem opens_bool {P : Program} {t : TypeId} (h : P.underlying t = some .bool) : Opens P t Kd.bool wfB := by
  refine ⟨?_⟩
  intro H enc W fuel cs x hx
  obtain ⟨b, rfl, _⟩ := DataW.trod_bool h hx
  exact ⟨b, rfl, trivial⟩
theorem opens_string {P : Program} {t : TypeId} (h : P.underlying t = some .string) : Opens P t Kd.string wfS := by
  refine ⟨?_⟩
  intro H enc W fuel cs x hx
  obtain ⟨b, rfl, _, hs⟩ := DataW.trod_string h hx
  exact ⟨b, rfl, hs⟩

theorem add_add_ (ad : Addr) (m j : Nat) : (ad.add m).add j = ad.add (m + j) := by
  unfold Addr.add
  by_cases hm : m = 0
  · subst hm; simp
  · by_cases hj : j = 0
    · subst hj; simp [hm]
    · simp [hm, hj, Nat.add_assoc]

theorem opens_slice {P : Program} {t e : TypeId} {α : Type} {d : Kd α} {wf : α → Prop} (h : P.underlying t = some (.slice e)) (hsz : P.cellsOf e = d.sz) (ho : Opens P e d wf) : Opens P t (Kd.slice e d) (wfL wf) := by
  refine ⟨?_⟩
  intro H enc W fuel cs x hx
  rcases DataW.trod_slice h hx with ⟨rfl, _⟩ | ⟨a, len, cap, elems, rest, n, _, rfl, _, _, hl, hm, hlen, hel, _, _⟩
  · exact ⟨[], ⟨none, 0, rfl, Nat.le_refl _, rfl, by simp, fun hp => absurd hp (by simp)⟩, by simp, fun x hx => by simp at hx⟩
  · have hm' : len ≤ 9223372036854775807 := by simp only [maxLen] at hm; omega
    have each : ∀ i, i < len → ∃ y c, c.length = d.sz ∧ d.K W y c ∧ wf y ∧ ∀ j u, c[j]? = some u → W.cell? (a.add (i * d.sz + j)) = some u := by
      intro i hi
      have h1 := hel i hi
      rw [List.getElem?_eq_getElem (by omega)] at h1
      obtain ⟨c, hc, hd⟩ := Option.bind_eq_some_iff.1 h1
      obtain ⟨y, hy, hw⟩ := ho.out enc W n c _ hd
      obtain ⟨_, hcl, hcc⟩ := World.cells?_some hc
      refine ⟨y, c, by rw [hcl, hsz], hy, hw, fun j u hu => ?_⟩
      have hj : j < P.cellsOf e := by have := (List.getElem?_eq_some_iff.1 hu).1; omega
      have := hcc j hj
      rw [hu, add_add_, hsz] at this
      exact this
    have build : ∀ k, k ≤ len → ∃ ys : List α, ys.length = k ∧ (∀ y, y ∈ ys → wf y) ∧ ∀ j p, ys[j]? = some p → ∃ c, c.length = d.sz ∧ d.K W p c ∧ ∀ i u, c[i]? = some u → W.cell? (a.add (j * d.sz + i)) = some u := by
      intro k
      induction k with
      | zero => intro _; exact ⟨[], rfl, by simp, by simp⟩
      | succ k ih =>
        intro hk
        obtain ⟨ys, hlys, hw, hy⟩ := ih (by omega)
        obtain ⟨y, c, hcl, hK, hwy, hcell⟩ := each k (by omega)
        refine ⟨ys ++ [y], by simp [hlys], fun z hz => ?_, fun j p hp => ?_⟩
        · rcases List.mem_append.1 hz with hz | hz
          · exact hw z hz
          · rw [List.mem_singleton.1 hz]; exact hwy
        · rcases Nat.lt_or_ge j ys.length with hj | hj
          · rw [List.getElem?_append_left hj] at hp
            exact hy j p hp
          · have hj' : j = ys.length := by
              have := (List.getElem?_eq_some_iff.1 hp).1
              simp at this
              omega
            subst hj'
            have hp' : y = p := by simpa using hp
            subst hp'
            rw [hlys]
            exact ⟨c, hcl, hK, hcell⟩
    obtain ⟨ys, hlys, hw, hy⟩ := build len (Nat.le_refl _)
    subst hlys
    exact ⟨ys, ⟨some a, cap, rfl, hl, rfl, hm', fun _ => ⟨a, rfl, hy⟩⟩, hm', hw⟩

/-- the fields of a struct from an offset on -/
structure OpensF {α : Type} (P : Program) (fs : List Field) (off : Nat) (d : Kd α) (wf : α → Prop) : Prop where
  out : ∀ {H : Type} (enc : TypeId × Value → H) (W : World) (fuel : Nat) (cs : List Value), cs.length = off + d.sz →
    (∀ (i : Nat) (f : Field), fs[i]? = some f → ∃ y, DataW.trod enc P W 0 (fun _ => true) true fuel f.type ((cs.drop f.offset).take (P.cellsOf f.type)) = some y) →
    ∃ y, d.K W y (cs.drop off) ∧ wf y

theorem opens_last {P : Program} {f : Field} {off : Nat} {α : Type} {d : Kd α} {wf : α → Prop} (hoff : f.offset = off) (hsz : P.cellsOf f.type = d.sz) (ho : Opens P f.type d wf) : OpensF P [f] off d wf := by
  refine ⟨?_⟩
  intro H enc W fuel cs hl hf
  obtain ⟨y, hy⟩ := hf 0 f rfl
  rw [hoff, hsz, List.take_of_length_le (by rw [List.length_drop]; omega)] at hy
  exact ho.out enc W fuel _ _ hy

theorem opens_cons {P : Program} {f : Field} {fs : List Field} {off : Nat} {α β : Type} {a : Kd α} {b : Kd β} {wa : α → Prop} {wb : β → Prop} (hoff : f.offset = off) (hsz : P.cellsOf f.type = a.sz)
    (ha : Opens P f.type a wa) (hb : OpensF P fs (off + a.sz) b wb) : OpensF P (f :: fs) off (Kd.pair a b) (fun x => wa x.1 ∧ wb x.2) := by
  refine ⟨?_⟩
  intro H enc W fuel cs hl hf
  have hl' : cs.length = off + (a.sz + b.sz) := hl
  obtain ⟨y, hy⟩ := hf 0 f rfl
  rw [hoff, hsz] at hy
  obtain ⟨p, hp, hwp⟩ := ha.out enc W fuel _ _ hy
  obtain ⟨q, hq, hwq⟩ := hb.out enc W fuel cs (by omega) (fun i g hg => hf (i + 1) g (by simpa using hg))
  refine ⟨(p, q), ⟨(cs.drop off).take a.sz, cs.drop (off + a.sz), ?_, hp, hq⟩, hwp, hwq⟩
  rw [← List.drop_drop, List.take_append_drop]

theorem opens_struct {P : Program} {t : TypeId} {fs : Array Field} {α β : Type} {d : Kd α} {f : β → α} {wf : α → Prop} (hT : P.underlying t = some (.struct fs)) (hsz : P.cellsOf t = d.sz) (g : α → β) (hg : ∀ y, f (g y) = y)
    (ho : OpensF P fs.toList 0 d wf) : Opens P t (Kd.iso d f) (fun x => wf (f x)) := by
  refine ⟨?_⟩
  intro H enc W fuel cs x hx
  obtain ⟨xs, n, _, _, hl, hlen, hf⟩ := DataW.trod_struct hT hx
  obtain ⟨y, hy, hw⟩ := ho.out enc W n cs (by omega) (fun i q hq => ⟨_, (hf i q (by simpa using hq)).trans (List.getElem?_eq_getElem (by
    have := (List.getElem?_eq_some_iff.1 hq).1
    simp at this hlen
    omega))⟩)
  refine ⟨g y, ?_, ?_⟩
  · show d.K W (f (g y)) cs
    rw [hg]
    exact hy
  · show wf (f (g y))
    rw [hg]
    exact hw

end Go.Proofs.Ytpdpdfccgeegaaa.Opn

namespace Go.Proofs.Ytpdpdfccgeegaaa.P
open Go.RowKit Go.Proofs.YtpdpdfccgeegaaaW.PrintWords Go.Proofs.YtpdpdfccgeegaaaW.PrintLast Go.Proofs.YtpdpdfccgeegaaaW.PrintMore Go.Proofs.Ytpdpdfccgeegaaa.Opn
set_option linter.unusedVariables false

theorem opens3 : Opens Try.prog 3 (Kd.int .i64) wfI := opens_int Try.underlying3
theorem opens22 : Opens Try.prog 22 (Kd.slice 3 (Kd.int .i64)) (wfL wfI) := opens_slice Try.underlying22 (by kernel_rfl) opens3
theorem opens23 : Opens Try.prog 23 (Kd.slice 22 (Kd.slice 3 (Kd.int .i64))) (wfL (wfL wfI)) := opens_slice Try.underlying23 (by kernel_rfl) opens22
def wf34 (x : S34) : Prop := (wfL wfI) x.f0 ∧ (wfL (wfL wfI)) x.f1 ∧ (wfL wfI) x.f2 ∧ (wfL wfI) x.f3 ∧ wfI x.f4
theorem opens34 : Opens Try.prog 34 k34 wf34 := by
  have h := opens_struct (f := (fun x : S34 => (x.f0, x.f1, x.f2, x.f3, x.f4))) Try.underlying34 (by kernel_rfl) (fun y => ⟨y.1, y.2.1, y.2.2.1, y.2.2.2.1, y.2.2.2.2⟩) (fun _ => rfl) (opens_cons rfl (by kernel_rfl) opens22 (opens_cons rfl (by kernel_rfl) opens23 (opens_cons rfl (by kernel_rfl) opens22 (opens_cons rfl (by kernel_rfl) opens22 (opens_last rfl (by kernel_rfl) opens3)))))
  exact ⟨h.out⟩

end Go.Proofs.Ytpdpdfccgeegaaa.P

namespace Go.Proofs.Ytpdpdfccgeegaaa.P
open Go.RowKit Go.Proofs.YtpdpdfccgeegaaaW.PrintWords Go.Proofs.YtpdpdfccgeegaaaW.PrintLast Go.Proofs.YtpdpdfccgeegaaaW.PrintMore Go.Proofs.Ytpdpdfccgeegaaa.Opn
set_option linter.unusedVariables false

def laws_FnExactWaitingIn.Pure : Prop := ∀ (l0_0 : List Int) (l0_1 : List (List Int)) (l0_2 : List Int) (l0_3 : List Int) (a0_4 : Int), (wfL wfI) l0_0 → (wfL (wfL wfI)) l0_1 → (wfL wfI) l0_2 → (wfL wfI) l0_3 → wfI a0_4 → ∃ k, laws_FnExactWaitingIn.f k l0_0 l0_1 l0_2 l0_3 a0_4 = some true

end Go.Proofs.Ytpdpdfccgeegaaa.P

namespace Go.Proofs.Ytpdpdfccgeegaaa.Pure
open Go.RowKit Go.Proofs.Ytpdpdfccgeegaaa.P Go.Proofs.YtpdpdfccgeegaaaW.PrintWords Go.Proofs.YtpdpdfccgeegaaaW.PrintLast Go.Proofs.Ytpdpdfccgeegaaa.Opn
set_option linter.unusedVariables false
set_option linter.unusedSimpArgs false

theorem wrap_id {x : Int} (h0 : -9223372036854775808 ≤ x) (h1 : x ≤ 9223372036854775807) : wrap64 x = x := by
  unfold wrap64
  omega
theorem rd_nat (l : List Int) (i : Nat) (h : i < l.length) : rd l (i : Int) = l[i] := by
  simp [rd, List.getD_eq_getElem?_getD, List.getElem?_eq_getElem h]
theorem drop_rd (l : List Int) (i : Nat) (h : i < l.length) : l.drop i = rd l (i : Int) :: l.drop (i + 1) := by
  rw [List.drop_eq_getElem_cons h, rd_nat l i h]
theorem take_rd (l : List Int) (i : Nat) (h : i < l.length) : l.take (i + 1) = l.take i ++ [rd l (i : Int)] := by
  rw [List.take_succ_eq_append_getElem h, rd_nat l i h]
theorem take_set_succ {α : Type} (l : List α) (i : Nat) (h : i < l.length) (v : α) : (l.set i v).take (i + 1) = l.take i ++ [v] := by
  rw [List.take_succ_eq_append_getElem (by simpa using h)]
  rw [List.getElem_set_self, List.take_set_of_le (Nat.le_refl i)]
theorem round {k d : Nat} (h : d < k) : ∃ m, k = m + 1 := ⟨k - 1, by omega⟩
def marks (a : Int) : Nat → List Int
  | 0 => []
  | n + 1 => a :: marks (a + 1) n
theorem marks_length (a : Int) (n : Nat) : (marks a n).length = n := by
  induction n generalizing a with
  | zero => rfl
  | succ n ih => simp [marks, ih]
theorem marks_rd (n : Nat) : ∀ (a : Int) (i : Nat), i < n → rd (marks a n) (i : Int) = a + i := by
  induction n with
  | zero => intro a i h; omega
  | succ n ih =>
    intro a i h
    cases i with
    | zero => simp [marks, rd]
    | succ i =>
      have := ih (a + 1) i (by omega)
      simp only [marks, rd, Int.toNat_natCast, List.getD_cons_succ] at this ⊢
      rw [this]
      push_cast
      omega
theorem marks_snoc (n : Nat) : ∀ (a : Int), marks a (n + 1) = marks a n ++ [a + n] := by
  induction n with
  | zero => intro a; simp [marks]
  | succ n ih =>
    intro a
    rw [marks, ih (a + 1)]
    simp only [marks, List.cons_append, List.cons.injEq, true_and]
    congr 2
    push_cast
    omega

end Go.Proofs.Ytpdpdfccgeegaaa.Pure

namespace Go.Proofs.Ytpdpdfccgeegaaa.Pure
open Go.RowKit Go.Proofs.Ytpdpdfccgeegaaa.P Go.Proofs.YtpdpdfccgeegaaaW.PrintWords Go.Proofs.YtpdpdfccgeegaaaW.PrintLast Go.Proofs.Ytpdpdfccgeegaaa.Opn
set_option linter.unusedVariables false
set_option linter.unusedSimpArgs false

theorem toIntS_l0 (x : List Int) (hn : x.length ≤ 1048576) : ∀ (d k i : Nat) (y : List Int), i + d = x.length → d < k → y.length = x.length → y.take i = x.take i → laws_toIntS.l0 k x y (i : Int) = some x := by
  intro d
  induction d with
  | zero =>
    intro k i y hi hk hy ht
    obtain ⟨k, rfl⟩ := round hk
    simp only [laws_toIntS.l0]
    rw [if_neg (by omega)]
    have : i = x.length := by omega
    subst this
    rw [List.take_length, ← hy, List.take_length] at ht
    rw [ht]
  | succ d ih =>
    intro k i y hi hk hy ht
    obtain ⟨k, rfl⟩ := round hk
    simp only [laws_toIntS.l0]
    rw [if_pos (by omega), if_pos (by omega), if_pos (by omega), wrap_id (by omega) (by omega), Int.toNat_natCast]
    have := ih k (i + 1) (y.set i (rd x i)) (by omega) (by omega) (by simpa using hy) (by rw [take_set_succ _ _ (by omega), ht, take_rd _ _ (by omega)])
    simpa using this
theorem toIntS (x : List Int) (hn : x.length ≤ 1048576) (k : Nat) (hk : x.length < k) : laws_toIntS.f k x = some x := by
  unfold laws_toIntS.f
  rw [if_pos (by omega), if_pos (by omega), Int.toNat_natCast]
  exact toIntS_l0 x hn x.length k 0 _ (by omega) hk (by simp) (by simp)
theorem eqIntS_l0 (x y : List Int) (hn : x.length ≤ 1048576) (he : x.length = y.length) : ∀ (d k i : Nat), i + d = x.length → d < k → x.take i = y.take i → laws_eqIntS.l0 k x y (i : Int) = some (decide (x = y)) := by
  intro d
  induction d with
  | zero =>
    intro k i hi hk ht
    obtain ⟨k, rfl⟩ := round hk
    simp only [laws_eqIntS.l0]
    rw [if_neg (by omega)]
    have : i = x.length := by omega
    subst this
    rw [List.take_length, he, List.take_length] at ht
    simp [ht]
  | succ d ih =>
    intro k i hi hk ht
    obtain ⟨k, rfl⟩ := round hk
    simp only [laws_eqIntS.l0]
    rw [if_pos (by omega), if_pos (by omega), if_pos (by omega)]
    by_cases hc : rd x (i : Int) = rd y (i : Int)
    · rw [if_pos hc, wrap_id (by omega) (by omega)]
      have := ih k (i + 1) (by omega) (by omega) (by rw [take_rd _ _ (by omega), take_rd _ _ (by omega), ht, hc])
      simpa using this
    · rw [if_neg hc]
      have : x ≠ y := by rintro rfl; exact hc rfl
      simp [this]
theorem eqIntS (x y : List Int) (hn : x.length ≤ 1048576) (k : Nat) (hk : x.length < k) : laws_eqIntS.f k x y = some (decide (x = y)) := by
  unfold laws_eqIntS.f
  by_cases he : x.length = y.length
  · rw [if_pos (by omega)]
    exact eqIntS_l0 x y hn he x.length k 0 (by omega) hk (by simp)
  · rw [if_neg (by omega)]
    have : x ≠ y := by rintro rfl; exact he rfl
    simp [this]

end Go.Proofs.Ytpdpdfccgeegaaa.Pure

namespace Go.Proofs.Ytpdpdfccgeegaaa.Pure
open Go.RowKit Go.Proofs.Ytpdpdfccgeegaaa.P Go.Proofs.YtpdpdfccgeegaaaW.PrintWords Go.Proofs.YtpdpdfccgeegaaaW.PrintLast Go.Proofs.Ytpdpdfccgeegaaa.Opn
set_option linter.unusedVariables false
set_option linter.unusedSimpArgs false

theorem szIntS (l : List Int) (a : Int) (ha : 0 ≤ a) (ha2 : a ≤ 1048576) (hl : l.length ≤ 9223372036854775807) : laws_szIntS.f l a = some (if (l.length : Int) ≤ a then a - l.length else -1) := by
  unfold laws_szIntS.f
  rw [wrap_id (by omega) (by omega)]
  by_cases h : (l.length : Int) ≤ a
  · rw [if_neg (by omega), if_pos h]
  · rw [if_pos (by omega), if_neg h]

end Go.Proofs.Ytpdpdfccgeegaaa.Pure

namespace Go.Proofs.Ytpdpdfccgeegaaa.Pure
open Go.RowKit Go.Proofs.Ytpdpdfccgeegaaa.P Go.Proofs.YtpdpdfccgeegaaaW.PrintWords Go.Proofs.YtpdpdfccgeegaaaW.PrintLast Go.Proofs.Ytpdpdfccgeegaaa.Opn
set_option linter.unusedVariables false
set_option linter.unusedSimpArgs false

theorem spec_in (a b c : Int) : spec_l1In.f a b c = some (decide (b ≤ a ∧ a ≤ c)) := by
  unfold spec_l1In.f
  by_cases h : a ≥ b
  · rw [if_pos h]
    by_cases h2 : a ≤ c
    · simp [h, h2]
    · simp [h2]
  · rw [if_neg h]
    have : ¬ b ≤ a := by omega
    simp [this]
theorem impl_in_ (a b c : Int) : impl_in.f a b c = some (decide (b ≤ a ∧ a ≤ c)) := spec_in a b c

end Go.Proofs.Ytpdpdfccgeegaaa.Pure

namespace Go.Proofs.Ytpdpdfccgeegaaa.Pure
open Go.RowKit Go.Proofs.Ytpdpdfccgeegaaa.P Go.Proofs.YtpdpdfccgeegaaaW.PrintWords Go.Proofs.YtpdpdfccgeegaaaW.PrintLast Go.Proofs.Ytpdpdfccgeegaaa.Opn
set_option linter.unusedVariables false
set_option linter.unusedSimpArgs false

theorem l1All_l0 (l : List Int) (lo hi : Int) (hn : l.length ≤ 1048576) : ∀ (d k i : Nat), i + d = l.length → d < k → spec_l1All.l0 k lo hi l (l.length : Int) (i : Int) = some ((l.drop i).all fun x => decide (lo ≤ x ∧ x ≤ hi)) := by
  intro d
  induction d with
  | zero =>
    intro k i h hk
    obtain ⟨k, rfl⟩ := round hk
    simp only [spec_l1All.l0]
    rw [if_neg (by omega), List.drop_of_length_le (by omega)]
    rfl
  | succ d ih =>
    intro k i h hk
    obtain ⟨k, rfl⟩ := round hk
    simp only [spec_l1All.l0]
    rw [if_pos (by omega), if_pos (by omega), if_pos (by omega), spec_in, Option.bind_some, drop_rd l i (by omega), List.all_cons]
    by_cases hc : lo ≤ rd l (i : Int) ∧ rd l (i : Int) ≤ hi
    · rw [if_pos (by simpa using hc), wrap_id (by omega) (by omega)]
      have := ih k (i + 1) (by omega) (by omega)
      simp only [hc, and_self, decide_true, Bool.true_and]
      simpa using this
    · rw [if_neg (by simpa using hc)]
      simp [hc]
theorem l1All (l : List Int) (lo hi : Int) (hn : l.length ≤ 1048576) (k : Nat) (hk : l.length < k) : spec_l1All.f k l lo hi = some (l.all fun x => decide (lo ≤ x ∧ x ≤ hi)) := by
  unfold spec_l1All.f
  have := l1All_l0 l lo hi hn l.length k 0 (by omega) hk
  simpa using this

end Go.Proofs.Ytpdpdfccgeegaaa.Pure

namespace Go.Proofs.Ytpdpdfccgeegaaa.Pure
open Go.RowKit Go.Proofs.Ytpdpdfccgeegaaa.P Go.Proofs.YtpdpdfccgeegaaaW.PrintWords Go.Proofs.YtpdpdfccgeegaaaW.PrintLast Go.Proofs.Ytpdpdfccgeegaaa.Opn
set_option linter.unusedVariables false
set_option linter.unusedSimpArgs false

theorem rdL (l : List (List Int)) (i : Nat) (h : i < l.length) : rd_L1 l (i : Int) = l[i] := by
  simp [rd_L1, List.getD_eq_getElem?_getD, List.getElem?_eq_getElem h]
theorem drop_rdL (l : List (List Int)) (i : Nat) (h : i < l.length) : l.drop i = rd_L1 l (i : Int) :: l.drop (i + 1) := by
  rw [List.drop_eq_getElem_cons h, rdL l i h]
theorem rdL_mem (l : List (List Int)) (i : Nat) (h : i < l.length) : rd_L1 l (i : Int) ∈ l := by
  rw [rdL l i h]
  exact List.getElem_mem h
/-- What the sum of sizes tells: a number below 0, or all sizes are small. -/
theorem szSS_l0 (l : List (List Int)) (hn : l.length ≤ 1048576) (hw : ∀ q ∈ l, q.length ≤ 9223372036854775807) : ∀ (d k i : Nat) (a : Int), i + d = l.length → d < k → 0 ≤ a → a ≤ 1048576 → ∃ v, laws_szIntSS.l0 k l a (i : Int) = some v ∧ (0 ≤ v → v ≤ a ∧ ∀ q ∈ l.drop i, (q.length : Int) ≤ a) := by
  intro d
  induction d with
  | zero =>
    intro k i a h hk h0 h1
    obtain ⟨k, rfl⟩ := round hk
    refine ⟨a, ?_, fun _ => ⟨Int.le_refl a, ?_⟩⟩
    · rw [laws_szIntSS.l0, if_neg (by omega)]
    · rw [List.drop_of_length_le (by omega)]
      intro q hq
      cases hq
  | succ d ih =>
    intro k i a h hk h0 h1
    obtain ⟨k, rfl⟩ := round hk
    have hm := hw _ (rdL_mem l i (by omega))
    rw [laws_szIntSS.l0, if_pos (by omega), if_pos (by omega), szIntS _ a h0 h1 hm, Option.bind_some, wrap_id (x := (i : Int) + 1) (by omega) (by omega)]
    by_cases hc : ((rd_L1 l (i : Int)).length : Int) ≤ a
    · rw [if_pos hc, if_neg (by omega)]
      obtain ⟨v, e, hv⟩ := ih k (i + 1) (a - ((rd_L1 l (i : Int)).length : Int)) (by omega) (by omega) (by omega) (by omega)
      refine ⟨v, e, fun h2 => ?_⟩
      have := hv h2
      refine ⟨by omega, ?_⟩
      rw [drop_rdL l i (by omega)]
      intro q hq
      rcases List.mem_cons.1 hq with rfl | hq
      · exact hc
      · have := this.2 q hq
        omega
    · rw [if_neg hc, if_pos (by omega)]
      exact ⟨-1, rfl, fun h2 => by omega⟩
theorem szSS (l : List (List Int)) (a : Int) (ha : 0 ≤ a) (ha2 : a ≤ 1048576) (hl : l.length ≤ 9223372036854775807) (hw : ∀ q ∈ l, q.length ≤ 9223372036854775807) (k : Nat) (hk : 1048576 < k) : ∃ v, laws_szIntSS.f k l a = some v ∧ (0 ≤ v → v ≤ a ∧ (l.length : Int) ≤ a ∧ ∀ q ∈ l, (q.length : Int) ≤ a) := by
  unfold laws_szIntSS.f
  rw [wrap_id (by omega) (by omega)]
  by_cases hc : (l.length : Int) ≤ a
  · rw [if_neg (by omega)]
    obtain ⟨v, e, hv⟩ := szSS_l0 l (by omega) hw l.length k 0 (a - l.length) (by omega) (by omega) (by omega) (by omega)
    refine ⟨v, e, fun h2 => ?_⟩
    have := hv h2
    refine ⟨by omega, hc, fun q hq => ?_⟩
    have := this.2 q (by simpa using hq)
    omega
  · rw [if_pos (by omega)]
    exact ⟨-1, rfl, fun h2 => by omega⟩
theorem szTurns (l0 : List Int) (l1 : List (List Int)) (l2 l3 : List Int) (a : Int) (h0 : l0.length ≤ 9223372036854775807) (h1 : l1.length ≤ 9223372036854775807) (hw : ∀ q ∈ l1, q.length ≤ 9223372036854775807) (h2 : l2.length ≤ 9223372036854775807) (h3 : l3.length ≤ 9223372036854775807) (k : Nat) (hk : 1048576 < k) :
    ∃ v, laws_szTurns.f k l0 l1 l2 l3 a 1048576 = some v ∧ (0 ≤ v → l0.length ≤ 1048576 ∧ l1.length ≤ 1048576 ∧ (∀ q ∈ l1, q.length ≤ 1048576) ∧ l2.length ≤ 1048576 ∧ l3.length ≤ 1048576) := by
  unfold laws_szTurns.f
  rw [szIntS l0 _ (by omega) (by omega) h0, Option.bind_some]
  by_cases c0 : (l0.length : Int) ≤ 1048576
  · rw [if_pos c0, if_neg (by omega)]
    obtain ⟨v1, e1, f1⟩ := szSS l1 (1048576 - l0.length) (by omega) (by omega) h1 hw k hk
    rw [e1, Option.bind_some]
    by_cases c1 : v1 < 0
    · rw [if_pos c1]
      exact ⟨-1, rfl, fun h => by omega⟩
    · have g1 := f1 (by omega)
      rw [if_neg c1, szIntS l2 v1 (by omega) (by omega) h2, Option.bind_some]
      by_cases c2 : (l2.length : Int) ≤ v1
      · rw [if_pos c2, if_neg (by omega), szIntS l3 _ (by omega) (by omega) h3, Option.bind_some]
        by_cases c3 : (l3.length : Int) ≤ v1 - l2.length
        · rw [if_pos c3, if_neg (by omega)]
          refine ⟨_, rfl, fun _ => ⟨by omega, by omega, fun q hq => ?_, by omega, by omega⟩⟩
          have := g1.2.2 q hq
          omega
        · rw [if_neg c3, if_pos (by omega)]
          exact ⟨-1, rfl, fun h => by omega⟩
      · rw [if_neg c2, if_pos (by omega)]
        exact ⟨-1, rfl, fun h => by omega⟩
  · rw [if_neg c0, if_pos (by omega)]
    exact ⟨-1, rfl, fun h => by omega⟩
theorem toSS_l0 (x : List (List Int)) (hn : x.length ≤ 1048576) (hq : ∀ q ∈ x, q.length ≤ 1048576) : ∀ (d k i : Nat) (y : List (List Int)), i + d = x.length → d + 1048576 < k → y.length = x.length → y.take i = x.take i → laws_toIntSS.l0 k x y (i : Int) = some x := by
  intro d
  induction d with
  | zero =>
    intro k i y hi hk hy ht
    obtain ⟨k, rfl⟩ := round hk
    rw [laws_toIntSS.l0, if_neg (by omega)]
    rw [List.take_of_length_le (by omega), List.take_of_length_le (by omega)] at ht
    rw [ht]
  | succ d ih =>
    intro k i y hi hk hy ht
    obtain ⟨k, rfl⟩ := round hk
    have hm := hq _ (rdL_mem x i (by omega))
    rw [laws_toIntSS.l0, if_pos (by omega), if_pos (by omega), toIntS _ hm k (by omega), Option.bind_some, if_pos (by omega), wrap_id (by omega) (by omega), Int.toNat_natCast]
    have := ih k (i + 1) (y.set i (rd_L1 x i)) (by omega) (by omega) (by simpa using hy) (by rw [take_set_succ _ _ (by omega), ht, List.take_succ_eq_append_getElem (by omega), rdL x i (by omega)])
    simpa using this
theorem toSS (x : List (List Int)) (hn : x.length ≤ 1048576) (hq : ∀ q ∈ x, q.length ≤ 1048576) (k : Nat) (hk : 2097152 < k) : laws_toIntSS.f k x = some x := by
  unfold laws_toIntSS.f
  rw [if_pos (by omega), if_pos (by omega), Int.toNat_natCast]
  exact toSS_l0 x hn hq x.length k 0 _ (by omega) (by omega) (by simp) (by simp)
theorem eqSS_l0 (x : List (List Int)) (hn : x.length ≤ 1048576) (hq : ∀ q ∈ x, q.length ≤ 1048576) : ∀ (d k i : Nat), i + d = x.length → d + 1048576 < k → laws_eqIntSS.l0 k x x (i : Int) = some true := by
  intro d
  induction d with
  | zero =>
    intro k i hi hk
    obtain ⟨k, rfl⟩ := round hk
    rw [laws_eqIntSS.l0, if_neg (by omega)]
  | succ d ih =>
    intro k i hi hk
    obtain ⟨k, rfl⟩ := round hk
    have hm := hq _ (rdL_mem x i (by omega))
    rw [laws_eqIntSS.l0, if_pos (by omega), if_pos (by omega), if_pos (by omega), eqIntS _ _ hm k (by omega), Option.bind_some, if_pos (by simp), wrap_id (by omega) (by omega)]
    exact ih k (i + 1) (by omega) (by omega)
theorem eqSS (x : List (List Int)) (hn : x.length ≤ 1048576) (hq : ∀ q ∈ x, q.length ≤ 1048576) (k : Nat) (hk : 2097152 < k) : laws_eqIntSS.f k x x = some true := by
  unfold laws_eqIntSS.f
  rw [if_pos rfl]
  exact eqSS_l0 x hn hq x.length k 0 (by omega) (by omega)
theorem toTurns (l0 : List Int) (l1 : List (List Int)) (l2 l3 : List Int) (a : Int) (h0 : l0.length ≤ 1048576) (h1 : l1.length ≤ 1048576) (hq : ∀ q ∈ l1, q.length ≤ 1048576) (h2 : l2.length ≤ 1048576) (h3 : l3.length ≤ 1048576) (k : Nat) (hk : 2097152 < k) : laws_toTurns.f k l0 l1 l2 l3 a = some (l0, l1, l2, l3, a) := by
  unfold laws_toTurns.f
  rw [toIntS l0 h0 k (by omega), Option.bind_some, toSS l1 h1 hq k hk, Option.bind_some, toIntS l2 h2 k (by omega), Option.bind_some, toIntS l3 h3 k (by omega), Option.bind_some]
theorem eqTurns (l0 : List Int) (l1 : List (List Int)) (l2 l3 : List Int) (a : Int) (h0 : l0.length ≤ 1048576) (h1 : l1.length ≤ 1048576) (hq : ∀ q ∈ l1, q.length ≤ 1048576) (h2 : l2.length ≤ 1048576) (h3 : l3.length ≤ 1048576) (k : Nat) (hk : 2097152 < k) : laws_eqTurns.f k l0 l1 l2 l3 a l0 l1 l2 l3 a = some true := by
  unfold laws_eqTurns.f
  rw [eqIntS l0 l0 h0 k (by omega), Option.bind_some, if_pos (by simp), eqSS l1 h1 hq k hk, Option.bind_some, if_pos rfl, eqIntS l2 l2 h2 k (by omega), Option.bind_some, if_pos (by simp), eqIntS l3 l3 h3 k (by omega), Option.bind_some, if_pos (by simp), if_pos rfl]
def qOk : List (List Int) → List Int → Bool
  | [], _ => true
  | q :: ls, c => (decide ((q.length : Int) ≤ 30) && (q.all (fun x => decide (1 ≤ x ∧ x ≤ 20)) && (!decide ((q.length : Int) = 0) || decide (c.headD 0 = 0)))) && qOk ls c.tail
theorem any_inR (l : List Int) (lo hi : Int) : l.any (fun x => !inR lo hi x) = !l.all (fun x => decide (lo ≤ x ∧ x ≤ hi)) := by
  rw [List.all_eq_not_any_not, Bool.not_not]
  rfl
theorem spec_l0 (l0 : List Int) (l1 : List (List Int)) (l2 l3 : List Int) (a : Int) (h1 : l1.length ≤ 1048576) (hq : ∀ q ∈ l1, q.length ≤ 1048576) (e2 : l2.length = l1.length) : ∀ (d k i : Nat), i + d = l1.length → d + 1048576 < k → spec_GoodTurns.l0 k l1 (l1.length : Int) (i : Int) l0 l1 l2 l3 a = some (qOk (l1.drop i) (l2.drop i)) := by
  intro d
  induction d with
  | zero =>
    intro k i h hk
    obtain ⟨k, rfl⟩ := round hk
    rw [spec_GoodTurns.l0, if_neg (by omega), List.drop_of_length_le (by omega)]
    rfl
  | succ d ih =>
    intro k i h hk
    obtain ⟨k, rfl⟩ := round hk
    have hm := hq _ (rdL_mem l1 i (by omega))
    have := ih k (i + 1) (by omega) (by omega)
    have e : ((i + 1 : Nat) : Int) = (i : Int) + 1 := by omega
    rw [e] at this
    rw [spec_GoodTurns.l0, if_pos (by omega), if_pos (by omega), if_pos (by omega), l1All _ _ _ hm k (by omega), Option.bind_some, wrap_id (x := (i : Int) + 1) (by omega) (by omega), this, drop_rdL l1 i (by omega), drop_rd l2 i (by omega), qOk]
    simp only [List.headD_cons, List.tail_cons]
    generalize rd_L1 l1 (i : Int) = q
    have hi2 : (i : Int) < (l2.length : Int) := by omega
    by_cases c1 : (q.length : Int) > 30
    · have c1' : ¬ (q.length : Int) ≤ 30 := by omega
      simp [c1, c1']
    · have c1' : (q.length : Int) ≤ 30 := by omega
      rw [if_neg c1]
      cases hA : q.all (fun x => decide (1 ≤ x ∧ x ≤ 20)) with
      | false => simp
      | true =>
        rw [if_pos rfl]
        by_cases c2 : (q.length : Int) = 0
        · rw [if_pos c2, if_pos hi2]
          by_cases c3 : rd l2 (i : Int) = 0
          · rw [if_pos c3]
            simp [c2, c3]
          · rw [if_neg c3]
            simp [c2, c3]
        · rw [if_neg c2]
          simp only [c1', c2, decide_true, decide_false, Bool.true_and, Bool.not_false, Bool.true_or]
theorem impl_l0 (l0 : List Int) (l1 : List (List Int)) (l2 l3 : List Int) (a : Int) (h1 : l1.length ≤ 1048576) (e2 : l2.length = l1.length) (e3 : l3.length = l1.length) : ∀ (d k i : Nat), i + d = l1.length → 2 * d < k → impl_GoodTurns.l0 k l1 (l1.length : Int) (i : Int) l0 l1 l2 l3 a = some (qOk (l1.drop i) (l2.drop i) && ((l2.drop i).all (fun x => decide (0 ≤ x ∧ x ≤ 19)) && (l3.drop i).all (fun x => decide (0 ≤ x ∧ x ≤ 1000000)))) := by
  intro d
  induction d with
  | zero =>
    intro k i h hk
    obtain ⟨k, rfl⟩ := round hk
    rw [impl_GoodTurns.l0, if_neg (by omega), List.drop_of_length_le (by omega), List.drop_of_length_le (by omega), List.drop_of_length_le (by omega)]
    rfl
  | succ d ih =>
    intro k i h hk
    obtain ⟨k, rfl⟩ : ∃ m, k = m + 1 + 1 := ⟨k - 2, by omega⟩
    have := ih k (i + 1) (by omega) (by omega)
    have e : ((i + 1 : Nat) : Int) = (i : Int) + 1 := by omega
    rw [e] at this
    have hi2 : (i : Int) < (l2.length : Int) := by omega
    have hi3 : (i : Int) < (l3.length : Int) := by omega
    have hi0 : (0 : Int) ≤ (i : Int) := by omega
    rw [impl_GoodTurns.l0, if_pos (by omega), if_pos (by omega), if_pos (by omega)]
    unfold slices_ContainsFunc_int_int.f
    simp only [Option.bind_some, impl_GoodTurns.j2, impl_in_, wrap_id (x := (i : Int) + 1) (by omega) (by omega), this, any_inR, hi2, hi3, hi0, if_true]
    rw [drop_rdL l1 i (by omega), drop_rd l2 i (by omega), drop_rd l3 i (by omega), qOk]
    simp only [List.headD_cons, List.tail_cons, List.all_cons]
    generalize rd_L1 l1 (i : Int) = q
    generalize rd l2 (i : Int) = c
    generalize rd l3 (i : Int) = s
    generalize qOk (l1.drop (i + 1)) (l2.drop (i + 1)) = Q
    generalize (l2.drop (i + 1)).all (fun x => decide (0 ≤ x ∧ x ≤ 19)) = A2
    generalize (l3.drop (i + 1)).all (fun x => decide (0 ≤ x ∧ x ≤ 1000000)) = A3
    by_cases c1 : (q.length : Int) > 30
    · have c1' : ¬ (q.length : Int) ≤ 30 := by omega
      simp [c1, c1']
    · have c1' : (q.length : Int) ≤ 30 := by omega
      rw [if_neg c1]
      cases hA : q.all (fun x => decide (1 ≤ x ∧ x ≤ 20)) with
      | false => simp
      | true =>
        by_cases h9 : 0 ≤ c ∧ c ≤ 19
        · by_cases hs : 0 ≤ s ∧ s ≤ 1000000
          · by_cases c2 : (q.length : Int) = 0
            · by_cases c3 : c > 0
              · have c3' : ¬ c = 0 := by omega
                simp [c2, c3, c3', h9]
              · have c3' : c = 0 := by omega
                subst c3'
                simp only [c2, hs, decide_true, Bool.not_true, Bool.false_eq_true, if_false, if_true, and_self]
                cases Q <;> cases A2 <;> cases A3 <;> simp
            · simp only [c1', c2, h9, hs, decide_true, decide_false, Bool.not_true, Bool.not_false, Bool.false_eq_true, if_false, if_true, and_self, Bool.true_and, Bool.true_or]
          · by_cases c2 : (q.length : Int) = 0
            · by_cases c3 : c > 0
              · have c3' : ¬ c = 0 := by omega
                simp [c2, c3, c3', h9]
              · simp [c2, c3, h9, hs]
            · simp [c2, h9, hs]
        · simp [h9]
def goodTu (l0 : List Int) (l1 : List (List Int)) (l2 l3 : List Int) (a : Int) : Bool :=
  decide (1 ≤ (l0.length : Int) ∧ (l0.length : Int) ≤ 4) && (l0.all (fun x => decide (20 ≤ x ∧ x ≤ 100)) && (decide (l1.length = l0.length) && (decide (l2.length = l0.length) && (decide (l3.length = l0.length) && (decide (0 ≤ a ∧ a ≤ wrap64 ((l0.length : Int) - 1)) && (qOk l1 l2 && (l2.all (fun x => decide (0 ≤ x ∧ x ≤ 19)) && l3.all (fun x => decide (0 ≤ x ∧ x ≤ 1000000)))))))))
theorem spec_goodTu (l0 : List Int) (l1 : List (List Int)) (l2 l3 : List Int) (a : Int) (h0 : l0.length ≤ 1048576) (h1 : l1.length ≤ 1048576) (hq : ∀ q ∈ l1, q.length ≤ 1048576) (h2 : l2.length ≤ 1048576) (h3 : l3.length ≤ 1048576) (k : Nat) (hk : 2097153 < k) : spec_GoodTurns.f k l0 l1 l2 l3 a = some (goodTu l0 l1 l2 l3 a) := by
  obtain ⟨k, rfl⟩ := round hk
  unfold spec_GoodTurns.f goodTu
  simp only [spec_in, Option.bind_some, l1All l0 _ _ h0 (k + 1) (by omega), l1All l2 _ _ h2 (k + 1) (by omega), l1All l3 _ _ h3 (k + 1) (by omega), spec_GoodTurns.j0, if_true]
  by_cases c0 : 1 ≤ (l0.length : Int) ∧ (l0.length : Int) ≤ 4
  · rw [if_pos (by simpa using c0)]
    cases a0 : l0.all (fun x => decide (20 ≤ x ∧ x ≤ 100)) with
    | false => simp
    | true =>
      rw [if_pos rfl]
      by_cases c1 : l1.length = l0.length
      · by_cases c2 : l2.length = l0.length
        · by_cases c3 : l3.length = l0.length
          · have hL := spec_l0 l0 l1 l2 l3 a h1 hq (by omega) l1.length k 0 (by omega) (by omega)
            have hL' : spec_GoodTurns.l0 k l1 (l1.length : Int) 0 l0 l1 l2 l3 a = some (qOk l1 l2) := by simpa using hL
            have c1' : (l1.length : Int) = (l0.length : Int) := by omega
            have c2' : (l2.length : Int) = (l0.length : Int) := by omega
            have c3' : (l3.length : Int) = (l0.length : Int) := by omega
            rw [if_pos c1', if_pos c2', if_pos c3', hL']
            simp only [c0, c1, c2, c3, and_self, decide_true, Bool.true_and]
            generalize decide (0 ≤ a ∧ a ≤ wrap64 ((l0.length : Int) - 1)) = D
            generalize qOk l1 l2 = Q
            cases l2.all (fun x => decide (0 ≤ x ∧ x ≤ 19)) <;> cases l3.all (fun x => decide (0 ≤ x ∧ x ≤ 1000000)) <;> cases D <;> cases Q <;> rfl
          · have c3' : ¬ (l3.length : Int) = (l0.length : Int) := by omega
            simp [c3, c3']
        · have c2' : ¬ (l2.length : Int) = (l0.length : Int) := by omega
          simp [c2, c2']
      · have c1' : ¬ (l1.length : Int) = (l0.length : Int) := by omega
        simp [c1, c1']
  · rw [if_neg (by simpa using c0)]
    simp only [c0, decide_false, Bool.false_and]
theorem impl_goodTu (l0 : List Int) (l1 : List (List Int)) (l2 l3 : List Int) (a : Int) (h1 : l1.length ≤ 1048576) (k : Nat) (hk : 2097153 < k) : impl_GoodTurns.f k l0 l1 l2 l3 a = some (goodTu l0 l1 l2 l3 a) := by
  obtain ⟨k, rfl⟩ := round hk
  unfold impl_GoodTurns.f goodTu impl_areQuanta.f
  simp only [impl_in_, Option.bind_some, any_inR, Bool.not_not, impl_GoodTurns.j0, if_true]
  have e : inR 1 4 (l0.length : Int) = decide (1 ≤ (l0.length : Int) ∧ (l0.length : Int) ≤ 4) := rfl
  rw [e]
  by_cases c0 : 1 ≤ (l0.length : Int) ∧ (l0.length : Int) ≤ 4
  · simp only [c0, and_self, decide_true, Bool.true_and]
    cases a0 : l0.all (fun x => decide (20 ≤ x ∧ x ≤ 100)) with
    | false => simp
    | true =>
      rw [if_pos rfl]
      by_cases c1 : l1.length = l0.length
      · by_cases c2 : l2.length = l0.length
        · by_cases c3 : l3.length = l0.length
          · have hL := impl_l0 l0 l1 l2 l3 a h1 (by omega) (by omega) l1.length k 0 (by omega) (by omega)
            have hL' : impl_GoodTurns.l0 k l1 (l1.length : Int) 0 l0 l1 l2 l3 a = some (qOk l1 l2 && (l2.all (fun x => decide (0 ≤ x ∧ x ≤ 19)) && l3.all (fun x => decide (0 ≤ x ∧ x ≤ 1000000)))) := by simpa using hL
            have c1' : (l1.length : Int) = (l0.length : Int) := by omega
            have c2' : (l2.length : Int) = (l0.length : Int) := by omega
            have c3' : (l3.length : Int) = (l0.length : Int) := by omega
            rw [if_pos c1', if_pos c2', if_pos c3', hL']
            simp only [c1, c2, c3, decide_true, Bool.true_and]
            cases decide (0 ≤ a ∧ a ≤ wrap64 ((l0.length : Int) - 1)) <;> rfl
          · have c3' : ¬ (l3.length : Int) = (l0.length : Int) := by omega
            simp [c3, c3']
        · have c2' : ¬ (l2.length : Int) = (l0.length : Int) := by omega
          simp [c2, c2']
      · have c1' : ¬ (l1.length : Int) = (l0.length : Int) := by omega
        simp [c1, c1']
  · simp only [c0, decide_false, Bool.false_and]
    simp

end Go.Proofs.Ytpdpdfccgeegaaa.Pure

namespace Go.Proofs.Ytpdpdfccgeegaaa.Pure
open Go.RowKit Go.Proofs.Ytpdpdfccgeegaaa.P Go.Proofs.YtpdpdfccgeegaaaW.PrintWords Go.Proofs.YtpdpdfccgeegaaaW.PrintLast Go.Proofs.Ytpdpdfccgeegaaa.Opn
set_option linter.unusedVariables false
set_option linter.unusedSimpArgs false

def sumW (l : List Int) (s : Int) : Int := l.foldl (fun a x => wrap64 (a + x)) s
theorem l1Sum_l0 (l : List Int) (hn : l.length ≤ 1048576) : ∀ (d k i : Nat) (s : Int), i + d = l.length → d < k → spec_l1Sum.l0 k s l (l.length : Int) (i : Int) = some (sumW (l.drop i) s) := by
  intro d
  induction d with
  | zero =>
    intro k i s h hk
    obtain ⟨k, rfl⟩ := round hk
    simp only [spec_l1Sum.l0]
    rw [if_neg (by omega), List.drop_of_length_le (by omega)]
    rfl
  | succ d ih =>
    intro k i s h hk
    obtain ⟨k, rfl⟩ := round hk
    simp only [spec_l1Sum.l0]
    rw [if_pos (by omega), if_pos (by omega), if_pos (by omega), drop_rd l i (by omega), wrap_id (x := (i : Int) + 1) (by omega) (by omega)]
    have := ih k (i + 1) (wrap64 (s + rd l (i : Int))) (by omega) (by omega)
    simpa [sumW] using this
theorem l1Sum (l : List Int) (hn : l.length ≤ 1048576) (k : Nat) (hk : l.length < k) : spec_l1Sum.f k l = some (sumW l 0) := by
  unfold spec_l1Sum.f
  have := l1Sum_l0 l hn l.length k 0 0 (by omega) hk
  simpa using this
theorem impl_sum_l0 : ∀ (k : Nat) (a : Int) (l : List Int) (n i : Int), impl_sum.l0 k a l n i = spec_l1Sum.l0 k a l n i := by
  intro k
  induction k with
  | zero => intros; rfl
  | succ k ih => intros; simp only [impl_sum.l0, spec_l1Sum.l0, ih]
theorem implSum (l : List Int) (hn : l.length ≤ 1048576) (k : Nat) (hk : l.length < k) : impl_sum.f k l = some (sumW l 0) := by
  unfold impl_sum.f
  rw [impl_sum_l0]
  exact l1Sum l hn k hk

end Go.Proofs.Ytpdpdfccgeegaaa.Pure

namespace Go.Proofs.Ytpdpdfccgeegaaa.Pure
open Go.RowKit Go.Proofs.Ytpdpdfccgeegaaa.P Go.Proofs.YtpdpdfccgeegaaaW.PrintWords Go.Proofs.YtpdpdfccgeegaaaW.PrintLast Go.Proofs.Ytpdpdfccgeegaaa.Opn
set_option linter.unusedVariables false
set_option linter.unusedSimpArgs false

theorem wrap_add (a b : Int) : wrap64 (wrap64 a + b) = wrap64 (a + b) := by
  unfold wrap64
  omega
theorem wrap_add2 (a b : Int) : wrap64 (a + wrap64 b) = wrap64 (a + b) := by
  unfold wrap64
  omega
theorem sumW_sum : ∀ (l : List Int) (s : Int), wrap64 s = s → sumW l s = wrap64 (s + l.sum) := by
  intro l
  induction l with
  | nil => intro s h; simp [sumW, h]
  | cons x l ih =>
    intro s h
    have : sumW (x :: l) s = sumW l (wrap64 (s + x)) := rfl
    rw [this, ih _ (by unfold wrap64; omega), wrap_add, List.sum_cons, Int.add_assoc]
theorem waiting_l0 (l : List (List Int)) (hn : l.length ≤ 1048576) (hq : ∀ q ∈ l, q.length ≤ 1048576) : ∀ (d k i : Nat) (s : Int), i + d = l.length → d + 1048576 < k → wrap64 s = s → spec_l8Waiting.l0 k s l (l.length : Int) (i : Int) = some (wrap64 (s + (l.drop i).flatten.sum)) := by
  intro d
  induction d with
  | zero =>
    intro k i s hi hk hs
    obtain ⟨k, rfl⟩ := round hk
    rw [spec_l8Waiting.l0, if_neg (by omega), List.drop_of_length_le (by omega)]
    simp [hs]
  | succ d ih =>
    intro k i s hi hk hs
    obtain ⟨k, rfl⟩ := round hk
    have e : ((i + 1 : Nat) : Int) = (i : Int) + 1 := by omega
    have hm := hq _ (rdL_mem l i (by omega))
    rw [spec_l8Waiting.l0, if_pos (by omega), if_pos (by omega), if_pos (by omega), l1Sum _ hm k (by omega), Option.bind_some, wrap_id (x := (i : Int) + 1) (by omega) (by omega), ← e, ih k (i + 1) _ (by omega) (by omega) (by unfold wrap64; omega), drop_rdL l i (by omega), List.flatten_cons, List.sum_append, sumW_sum _ 0 (by unfold wrap64; omega), Int.zero_add, wrap_add2, wrap_add, Int.add_assoc]
theorem flat_le (n : Nat) : ∀ (l : List (List Int)), (∀ q ∈ l, q.length ≤ n) → l.flatten.length ≤ l.length * n := by
  intro l
  induction l with
  | nil => intro _; simp
  | cons q l ih =>
    intro h
    have h1 := h q (List.mem_cons_self ..)
    have h2 := ih (fun p hp => h p (List.mem_cons_of_mem _ hp))
    rw [List.flatten_cons, List.length_append, List.length_cons, Nat.succ_mul]
    omega
theorem qOk_len : ∀ (l : List (List Int)) (c : List Int), qOk l c = true → ∀ q ∈ l, q.length ≤ 30 := by
  intro l
  induction l with
  | nil => intro c _ q hq; cases hq
  | cons p l ih =>
    intro c h q hq
    unfold qOk at h
    simp only [Bool.and_eq_true, decide_eq_true_eq] at h
    rcases List.mem_cons.1 hq with rfl | hq
    · have := h.1.1
      omega
    · exact ih _ h.2 q hq
theorem waiting_both (l0 : List Int) (l1 : List (List Int)) (l2 l3 : List Int) (a : Int) (h0 : l0.length ≤ 1048576) (h1 : l1.length ≤ 1048576) (hq : ∀ q ∈ l1, q.length ≤ 1048576) (h2 : l2.length ≤ 1048576) (h3 : l3.length ≤ 1048576) (k : Nat) (hk : 2097153 < k) : ∃ r, spec_WaitingIn.f k l0 l1 l2 l3 a = some r ∧ impl_WaitingIn.f k l0 l1 l2 l3 a = some r := by
  unfold spec_WaitingIn.f impl_WaitingIn.f
  rw [spec_goodTu l0 l1 l2 l3 a h0 h1 hq h2 h3 k hk, impl_goodTu l0 l1 l2 l3 a h1 k hk, Option.bind_some, Option.bind_some]
  by_cases hg : goodTu l0 l1 l2 l3 a = true
  · rw [if_pos hg, if_pos hg]
    unfold goodTu at hg
    simp only [Bool.and_eq_true, decide_eq_true_eq] at hg
    obtain ⟨⟨_, c4⟩, _, c1, _, _, _, cq, _⟩ := hg
    have hf := flat_le 30 l1 (qOk_len l1 l2 cq)
    have hw := waiting_l0 l1 h1 hq l1.length k 0 0 (by omega) (by omega) (by unfold wrap64; omega)
    rw [show ((0 : Nat) : Int) = 0 from rfl, List.drop_zero, Int.zero_add] at hw
    unfold spec_l8Waiting.f slices_Concat_int_int.f
    have hf2 : l1.flatten.length ≤ 120 := by
      have : l1.length * 30 ≤ 4 * 30 := Nat.mul_le_mul_right 30 (by omega)
      omega
    rw [hw, if_pos (by omega), Option.bind_some, Option.bind_some, implSum _ (by omega) k (by omega), sumW_sum _ 0 (by unfold wrap64; omega), Int.zero_add]
    exact ⟨_, rfl, rfl⟩
  · rw [if_neg hg, if_neg hg]
    exact ⟨_, rfl, rfl⟩
theorem FnExactWaitingIn : laws_FnExactWaitingIn.Pure := by
  intro l0 l1 l2 l3 a h0 h1 h2 h3 _
  obtain ⟨k, hk⟩ : ∃ k : Nat, 3000000 < k := ⟨3000001, by omega⟩
  refine ⟨k + 1, ?_⟩
  obtain ⟨v, e, hv⟩ := szTurns l0 l1 l2 l3 a h0.1 h1.1 (fun q hq => (h1.2 q hq).1) h2.1 h3.1 (k + 1) (by omega)
  unfold laws_FnExactWaitingIn.f
  rw [e, Option.bind_some]
  by_cases hs : v < 0
  · rw [if_pos hs]
  · obtain ⟨g0, g1, gq, g2, g3⟩ := hv (by omega)
    rw [if_neg hs]
    obtain ⟨r, r1, r2⟩ := waiting_both l0 l1 l2 l3 a g0 g1 gq g2 g3 (k + 1) (by omega)
    simp only [toTurns l0 l1 l2 l3 a g0 g1 gq g2 g3 (k + 1) (by omega), Option.bind_some, r1, r2, if_true, bne_self_eq_false]
    rw [laws_FnExactWaitingIn.j0]
    simp only [Bool.false_eq_true, if_false, toTurns l0 l1 l2 l3 a g0 g1 gq g2 g3 k (by omega), Option.bind_some, eqTurns l0 l1 l2 l3 a g0 g1 gq g2 g3 k (by omega), if_true]

end Go.Proofs.Ytpdpdfccgeegaaa.Pure

namespace Go.Proofs.Ytpdpdfccgeegaaa.fnExactWaitingIn
open Go.ChangeShapes Go.WideShapes Go.ChangeAt Go.RowKit Go.Proofs.Ytpdpdfccgeegaaa.P Go.Proofs.Ytpdpdfccgeegaaa.Opn Go.Proofs.YtpdpdfccgeegaaaW.PrintWords
open Go.ChangeMaps (open_string shut_string)
set_option linter.unusedVariables false
theorem own : ownKnob Try.prog.godebug = none := by kernel_rfl
theorem laidOut : laidOutB Try.prog = true := by kernel_rfl
set_option maxRecDepth 100000 in
theorem lifted (os : Os) (started : os.Started) (H : Type) (enc : TypeId × Value → H) :
    ReturnsInHanded {} Try.checked os 4 .any (Rows.fnExactWaitingInSpec.pre6 enc Try.prog Try.f4 Rows.fnExactWaitingInRow.domain false) (Rows.fnExactWaitingInSpec.post enc Try.prog Try.f4 false true false false) := by
  refine returnsInHanded_of_change_sized (C := Try.checked) own started (by kernel_rfl) Try.func4
    (ChangeSpec.witness6 (enc := enc) (C := Try.checked) false ⟨#[], #[.agg #[.slice none 0 0, .slice none 0 0, .slice none 0 0, .slice none 0 0, .int .i64 0]], []⟩ 8 (by kernel_rfl) (by kernel_rfl) (by kernel_rfl) (by kernel_rfl)) ?_
  intro W base args ds gs before hval0 hW hcnd hsz0 _
  have hval : ∀ (j : Nat) t v, Try.f4.params[j]? = some t → args[j]? = some v → Value.okWide Try.prog W .any base t v := hval0
  have hW' := hW
  obtain ⟨p, q, hA0, hV, rfl, hfz, hnd⟩ := hW
  have hA : DataW.TrodAll enc Try.prog W 0 (fun _ => true) true Try.f4.params.toList args.toList ds p := hA0
  rw [Try.params4] at hA hval
  obtain ⟨v0, vs0, d0, ds0, p0, q0, hargs, rfl, rfl, h0, r0⟩ := trodAll_cons hA
  obtain ⟨rfl, rfl, rfl⟩ := trodAll_nil r0
  obtain rfl : args = #[v0] := by cases args; simp_all
  obtain ⟨rfl, rfl⟩ := trodVars_none hV
  have k0 := h0
  have lt0 : ∀ x ∈ p0, x.block < W.heap.size := by obtain ⟨m, hm⟩ := k0; exact DataW.trod_lt m _ _ _ hm
  obtain ⟨fuel0, hf0⟩ := h0
  obtain ⟨y0, hK0, hw0⟩ := opens34.out enc W fuel0 _ _ hf0
  obtain ⟨cs0, rfl, _⟩ := okWide_struct Try.underlying34 (hval 0 34 v0 rfl rfl)
  obtain ⟨A0_0, c0_0, A0_1, c0_1, A0_2, c0_2, A0_3, c0_3, hcs0, hc0_0, hr0_0, hc0_1, hr0_1, hc0_2, hr0_2, hc0_3, hr0_3⟩ := k34_open hK0
  obtain rfl : cs0 = #[.slice A0_0 y0.f0.length c0_0, .slice A0_1 y0.f1.length c0_1, .slice A0_2 y0.f2.length c0_2, .slice A0_3 y0.f3.length c0_3, .int .i64 y0.f4] := by simpa [Value.cells, ← Array.toList_inj] using hcs0
  obtain ⟨k_, hP⟩ := Pure.FnExactWaitingIn y0.f0 y0.f1 y0.f2 y0.f3 y0.f4 hw0.1 hw0.2.1 hw0.2.2.1 hw0.2.2.2.1 hw0.2.2.2.2
  refine (laws_FnExactWaitingIn.calls k_ _ _ y0.f0 _ _ y0.f1 _ _ y0.f2 _ _ y0.f3 y0.f4 true W hr0_0 hc0_0 hr0_1 hc0_1 hr0_2 hc0_2 hr0_3 hc0_3 hP).mono fun e W' he => ?_
  obtain ⟨rfl, hd⟩ := he
  have bel : Below W.heap.size W W' := hd
  exact ⟨_, rfl, _, _, _, [], _, [], hW', trodAll_mk1 (shut_bool Try.underlying4 _), (trodAll_cons_mk (Below.trod laidOut (by kernel_rfl) (of_decide_eq_true (by kernel_rfl)) k0 bel lt0) trodAll_mk0), rfl, bel.frame _, fun h => by cases h⟩
theorem over : Rows.fnExactWaitingInRow.holds Try.pinned (OpenSpec.ofChange Rows.fnExactWaitingInSpec) :=
  OpenClaim.holds_of_wide 4 Try.f4 rfl rfl rfl rfl rfl rfl rfl ⟨rfl, rfl, rfl, rfl, rfl⟩ rfl rfl rfl rfl rfl (by kernel_rfl) Try.func4 (by kernel_rfl)
    (of_decide_eq_true (by kernel_rfl)) (by unfold Func.isWrapper; first | (rw [if_pos (by decide +kernel)]; kernel_rfl) | (rw [if_neg (by decide +kernel)]; exact ⟨rfl, rfl⟩))
    (fun os started H enc _ => lifted os started H enc)
end Go.Proofs.Ytpdpdfccgeegaaa.fnExactWaitingIn
namespace Go.Proofs.Ytpdpdfccgeegaaa
/-- The row. -/
theorem fnExactWaitingIn_holds : Rows.FnExactWaitingInSaid := fnExactWaitingIn.over
#print axioms fnExactWaitingIn_holds
end Go.Proofs.Ytpdpdfccgeegaaa
