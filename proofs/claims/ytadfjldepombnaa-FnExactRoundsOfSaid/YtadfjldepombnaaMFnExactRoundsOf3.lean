/- FnExactRoundsOf: for every input that can be read, the law returns true and its arguments read as before. Conditions: none beyond the row's own. (Part 4 of 5: contracts made by pw.py with the kit's print, contracts by hand, plain laws, the row.) -/
import Derived.Test.YtadfjldepombnaaMFnExactRoundsOf2
import Derived.Test.YtadfjldepombnaaWWords
import Derived.ChangeArms
import Derived.ChangeSame
import Derived.ChangeSlices
import Derived.WideShapes
import Derived.ProofKit
import Derived.KernelRfl

namespace Go.Proofs.Ytadfjldepombnaa.P
open Go.RowKit Go.Proofs.YtadfjldepombnaaW.PrintWords Go.Proofs.YtadfjldepombnaaW.PrintLast Go.Proofs.YtadfjldepombnaaW.PrintMore
attribute [local go_sem] max2_int min2_int max_two min_two max_three min_three max_four min_four
set_option linter.unusedVariables false
set_option linter.unusedSimpArgs false

/-! ### laws_FnExactRoundsOf: function 10 -/
mutual
def laws_FnExactRoundsOf.j0 : Nat → Int → Int → Bool → Int → Bool → Bool → List Int → Int → List Int → Int → List Int → Int → List Int → Int → Option (Bool)
  | 0, _, _, _, _, _, _, _, _, _, _, _, _, _, _ => none
  | k + 1, x1, x7, x8, x11, x12, x54, x102000, x102001, x114000, x114001, x119000, x119001, x126000, x126001 => if x54 = true then (some false) else ((laws_toShares.f k x102000 x102001).bind fun bt127 => ((laws_eqShares.f k x119000 x119001 bt127.1 bt127.2).bind fun t131 => (if t131 = true then ((laws_markShares.f k x119000 x119001 1).bind fun bt132 => (if bt132.1 < 0 then (laws_FnExactRoundsOf.j1 k x1 x7 x8 true x102000 x102001 x114000 x114001 x126000 x126001) else ((laws_eqShares.f k x126000 x126001 x114000 x114001).bind fun t134 => (if t134 = true then (if x11 = x7 then (laws_FnExactRoundsOf.j1 k x1 x7 x8 (x12 != x8) x102000 x102001 x114000 x114001 x126000 x126001) else (laws_FnExactRoundsOf.j1 k x1 x7 x8 true x102000 x102001 x114000 x114001 x126000 x126001)) else (laws_FnExactRoundsOf.j1 k x1 x7 x8 true x102000 x102001 x114000 x114001 x126000 x126001))))) else (some false))))
def laws_FnExactRoundsOf.j1 : Nat → Int → Int → Bool → Bool → List Int → Int → List Int → Int → List Int → Int → Option (Bool)
  | 0, _, _, _, _, _, _, _, _, _, _ => none
  | k + 1, x1, x7, x8, x80, x102000, x102001, x114000, x114001, x126000, x126001 => if x80 = true then (some false) else ((laws_markShares.f k x126000 x126001 1).bind fun bt135 => ((laws_heldShares.f k bt135.2 x126001 1).bind fun t137 => (if t137 < 0 then (some false) else (if t137 = bt135.1 then ((laws_toShares.f k x102000 x102001).bind fun bt138 => ((impl_RoundsOf.f k bt138.1 bt138.2 x1).bind fun bt142 => ((laws_eqShares.f k bt142.1 bt142.2.1 x114000 x114001).bind fun t149 => (if t149 = true then (if bt142.2.2.1 = x7 then (laws_FnExactRoundsOf.j2 k bt135.1 (bt142.2.2.2 != x8) bt135.2 x126001) else (laws_FnExactRoundsOf.j2 k bt135.1 true bt135.2 x126001)) else (laws_FnExactRoundsOf.j2 k bt135.1 true bt135.2 x126001))))) else (some false)))))
def laws_FnExactRoundsOf.j2 : Nat → Int → Bool → List Int → Int → Option (Bool)
  | 0, _, _, _, _ => none
  | k + 1, x14, x113, x126000, x126001 => if x113 = true then (some false) else ((laws_heldShares.f k x126000 x126001 1).bind fun t150 => (if t150 < 0 then (some false) else (if t150 = x14 then (some true) else (some false))))
end
def laws_FnExactRoundsOf.f (k : Nat) (l0_0 : List Int) (a0_1 : Int) (a1 : Int) : Option (Bool) := (laws_szShares.f l0_0 a0_1 1048576).bind fun t102 => (if t102 < 0 then (some true) else ((laws_toShares.f k l0_0 a0_1).bind fun bt103 => ((spec_RoundsOf.f k bt103.1 bt103.2 a1).bind fun bt107 => ((laws_toShares.f k l0_0 a0_1).bind fun bt114 => ((impl_RoundsOf.f k bt114.1 bt114.2 a1).bind fun bt119 => ((laws_eqShares.f k bt119.1 bt119.2.1 bt107.1 bt107.2.1).bind fun t126 => (if t126 = true then (if bt119.2.2.1 = bt107.2.2.1 then (laws_FnExactRoundsOf.j0 k a1 bt107.2.2.1 bt107.2.2.2 bt119.2.2.1 bt119.2.2.2 (bt119.2.2.2 != bt107.2.2.2) l0_0 a0_1 bt107.1 bt107.2.1 bt114.1 bt114.2 bt119.1 bt119.2.1) else (laws_FnExactRoundsOf.j0 k a1 bt107.2.2.1 bt107.2.2.2 bt119.2.2.1 bt119.2.2.2 true l0_0 a0_1 bt107.1 bt107.2.1 bt114.1 bt114.2 bt119.1 bt119.2.1)) else (laws_FnExactRoundsOf.j0 k a1 bt107.2.2.1 bt107.2.2.2 bt119.2.2.1 bt119.2.2.2 true l0_0 a0_1 bt107.1 bt107.2.1 bt114.1 bt114.2 bt119.1 bt119.2.1))))))))
theorem laws_FnExactRoundsOf.mono_l : ∀ k, (∀ y0 y1 y2 y3 y4 y5 y6 y7 y8 y9 y10 y11 y12 y13, LeO (laws_FnExactRoundsOf.j0 k y0 y1 y2 y3 y4 y5 y6 y7 y8 y9 y10 y11 y12 y13) (laws_FnExactRoundsOf.j0 (k + 1) y0 y1 y2 y3 y4 y5 y6 y7 y8 y9 y10 y11 y12 y13)) ∧ (∀ y0 y1 y2 y3 y4 y5 y6 y7 y8 y9, LeO (laws_FnExactRoundsOf.j1 k y0 y1 y2 y3 y4 y5 y6 y7 y8 y9) (laws_FnExactRoundsOf.j1 (k + 1) y0 y1 y2 y3 y4 y5 y6 y7 y8 y9)) ∧ (∀ y0 y1 y2 y3, LeO (laws_FnExactRoundsOf.j2 k y0 y1 y2 y3) (laws_FnExactRoundsOf.j2 (k + 1) y0 y1 y2 y3))
  | 0 => ⟨fun _ _ _ _ _ _ _ _ _ _ _ _ _ _ r h => by simp [laws_FnExactRoundsOf.j0] at h, fun _ _ _ _ _ _ _ _ _ _ r h => by simp [laws_FnExactRoundsOf.j1] at h, fun _ _ _ _ r h => by simp [laws_FnExactRoundsOf.j2] at h⟩
  | k + 1 => by
    obtain ⟨ih0, ih1, ih2⟩ := laws_FnExactRoundsOf.mono_l k
    refine ⟨?_, ?_, ?_⟩
    · intro y0 y1 y2 y3 y4 y5 y6 y7 y8 y9 y10 y11 y12 y13
      unfold laws_FnExactRoundsOf.j0
      repeat' first
      | (with_reducible exact ih0 _ _ _ _ _ _ _ _ _ _ _ _ _ _)
      | (with_reducible exact ih1 _ _ _ _ _ _ _ _ _ _)
      | (with_reducible exact ih2 _ _ _ _)
      | (with_reducible exact impl_RoundsOf.mono _ _ _ _)
      | (with_reducible exact laws_eqShares.mono _ _ _ _ _)
      | (with_reducible exact laws_heldShares.mono _ _ _ _)
      | (with_reducible exact laws_markShares.mono _ _ _ _)
      | (with_reducible exact laws_toShares.mono _ _ _)
      | (with_reducible exact spec_RoundsOf.mono _ _ _ _)
      | (with_reducible exact LeO.refl _)
      | (with_reducible exact LeO.none _)
      | (with_reducible refine LeO.ite ?_ ?_)
      | (with_reducible refine LeO.bind ?_ (fun _ => ?_))
      | exact ih0 _ _ _ _ _ _ _ _ _ _ _ _ _ _
      | exact ih1 _ _ _ _ _ _ _ _ _ _
      | exact ih2 _ _ _ _
      | exact impl_RoundsOf.mono _ _ _ _
      | exact laws_eqShares.mono _ _ _ _ _
      | exact laws_heldShares.mono _ _ _ _
      | exact laws_markShares.mono _ _ _ _
      | exact laws_toShares.mono _ _ _
      | exact spec_RoundsOf.mono _ _ _ _
      | exact LeO.none _
      | refine LeO.ite ?_ ?_
      | refine LeO.bind ?_ (fun _ => ?_)
    · intro y0 y1 y2 y3 y4 y5 y6 y7 y8 y9
      unfold laws_FnExactRoundsOf.j1
      repeat' first
      | (with_reducible exact ih0 _ _ _ _ _ _ _ _ _ _ _ _ _ _)
      | (with_reducible exact ih1 _ _ _ _ _ _ _ _ _ _)
      | (with_reducible exact ih2 _ _ _ _)
      | (with_reducible exact impl_RoundsOf.mono _ _ _ _)
      | (with_reducible exact laws_eqShares.mono _ _ _ _ _)
      | (with_reducible exact laws_heldShares.mono _ _ _ _)
      | (with_reducible exact laws_markShares.mono _ _ _ _)
      | (with_reducible exact laws_toShares.mono _ _ _)
      | (with_reducible exact spec_RoundsOf.mono _ _ _ _)
      | (with_reducible exact LeO.refl _)
      | (with_reducible exact LeO.none _)
      | (with_reducible refine LeO.ite ?_ ?_)
      | (with_reducible refine LeO.bind ?_ (fun _ => ?_))
      | exact ih0 _ _ _ _ _ _ _ _ _ _ _ _ _ _
      | exact ih1 _ _ _ _ _ _ _ _ _ _
      | exact ih2 _ _ _ _
      | exact impl_RoundsOf.mono _ _ _ _
      | exact laws_eqShares.mono _ _ _ _ _
      | exact laws_heldShares.mono _ _ _ _
      | exact laws_markShares.mono _ _ _ _
      | exact laws_toShares.mono _ _ _
      | exact spec_RoundsOf.mono _ _ _ _
      | exact LeO.none _
      | refine LeO.ite ?_ ?_
      | refine LeO.bind ?_ (fun _ => ?_)
    · intro y0 y1 y2 y3
      unfold laws_FnExactRoundsOf.j2
      repeat' first
      | (with_reducible exact ih0 _ _ _ _ _ _ _ _ _ _ _ _ _ _)
      | (with_reducible exact ih1 _ _ _ _ _ _ _ _ _ _)
      | (with_reducible exact ih2 _ _ _ _)
      | (with_reducible exact impl_RoundsOf.mono _ _ _ _)
      | (with_reducible exact laws_eqShares.mono _ _ _ _ _)
      | (with_reducible exact laws_heldShares.mono _ _ _ _)
      | (with_reducible exact laws_markShares.mono _ _ _ _)
      | (with_reducible exact laws_toShares.mono _ _ _)
      | (with_reducible exact spec_RoundsOf.mono _ _ _ _)
      | (with_reducible exact LeO.refl _)
      | (with_reducible exact LeO.none _)
      | (with_reducible refine LeO.ite ?_ ?_)
      | (with_reducible refine LeO.bind ?_ (fun _ => ?_))
      | exact ih0 _ _ _ _ _ _ _ _ _ _ _ _ _ _
      | exact ih1 _ _ _ _ _ _ _ _ _ _
      | exact ih2 _ _ _ _
      | exact impl_RoundsOf.mono _ _ _ _
      | exact laws_eqShares.mono _ _ _ _ _
      | exact laws_heldShares.mono _ _ _ _
      | exact laws_markShares.mono _ _ _ _
      | exact laws_toShares.mono _ _ _
      | exact spec_RoundsOf.mono _ _ _ _
      | exact LeO.none _
      | refine LeO.ite ?_ ?_
      | refine LeO.bind ?_ (fun _ => ?_)
theorem laws_FnExactRoundsOf.mono : ∀ a0 a1 a2 k, LeO (laws_FnExactRoundsOf.f k a0 a1 a2) (laws_FnExactRoundsOf.f (k + 1) a0 a1 a2) := by
  intro a0 a1 a2 k
  obtain ⟨ih0, ih1, ih2⟩ := laws_FnExactRoundsOf.mono_l k
  unfold laws_FnExactRoundsOf.f
  repeat' first
      | (with_reducible exact ih0 _ _ _ _ _ _ _ _ _ _ _ _ _ _)
      | (with_reducible exact ih1 _ _ _ _ _ _ _ _ _ _)
      | (with_reducible exact ih2 _ _ _ _)
      | (with_reducible exact impl_RoundsOf.mono _ _ _ _)
      | (with_reducible exact laws_eqShares.mono _ _ _ _ _)
      | (with_reducible exact laws_heldShares.mono _ _ _ _)
      | (with_reducible exact laws_markShares.mono _ _ _ _)
      | (with_reducible exact laws_toShares.mono _ _ _)
      | (with_reducible exact spec_RoundsOf.mono _ _ _ _)
      | (with_reducible exact LeO.refl _)
      | (with_reducible exact LeO.none _)
      | (with_reducible refine LeO.ite ?_ ?_)
      | (with_reducible refine LeO.bind ?_ (fun _ => ?_))
      | exact ih0 _ _ _ _ _ _ _ _ _ _ _ _ _ _
      | exact ih1 _ _ _ _ _ _ _ _ _ _
      | exact ih2 _ _ _ _
      | exact impl_RoundsOf.mono _ _ _ _
      | exact laws_eqShares.mono _ _ _ _ _
      | exact laws_heldShares.mono _ _ _ _
      | exact laws_markShares.mono _ _ _ _
      | exact laws_toShares.mono _ _ _
      | exact spec_RoundsOf.mono _ _ _ _
      | exact LeO.none _
      | refine LeO.ite ?_ ?_
      | refine LeO.bind ?_ (fun _ => ?_)
set_option maxHeartbeats 8000000 in
set_option maxRecDepth 100000 in
theorem laws_FnExactRoundsOf.calls (k : Nat) (A0_0 : Option Addr) (c0_0 : Nat) (l0_0 : List Int) (a0_1 : Int) (a1 : Int) (r : Bool) (w : World) (hr0_0 : Kd.C (Kd.int .i64) w A0_0 l0_0.length l0_0) (hc0_0 : l0_0.length ≤ c0_0) (h : laws_FnExactRoundsOf.f k l0_0 a0_1 a1 = some r) :
    Calls Try.prog 10 #[.agg #[.slice A0_0 l0_0.length c0_0, .int .i64 a0_1], .int .i64 a1] w fun e w' => e = .returned (.bool r) ∧ Below w.heap.size w w' := by
  have hu24 := Try.underlying24
  have hu27 := Try.underlying27
  have HR0_0 := Aside0.mk hr0_0
  have HC0_0 := Aside0.mk hc0_0
  clear hr0_0 hc0_0
  have HB := Aside0.mk (Below.refl w.heap.size w)
  have H : ((laws_szShares.f l0_0 a0_1 1048576).bind fun t102 => (if t102 < 0 then (some true) else ((laws_toShares.f k l0_0 a0_1).bind fun bt103 => ((spec_RoundsOf.f k bt103.1 bt103.2 a1).bind fun bt107 => ((laws_toShares.f k l0_0 a0_1).bind fun bt114 => ((impl_RoundsOf.f k bt114.1 bt114.2 a1).bind fun bt119 => ((laws_eqShares.f k bt119.1 bt119.2.1 bt107.1 bt107.2.1).bind fun t126 => (if t126 = true then (if bt119.2.2.1 = bt107.2.2.1 then (laws_FnExactRoundsOf.j0 k a1 bt107.2.2.1 bt107.2.2.2 bt119.2.2.1 bt119.2.2.2 (bt119.2.2.2 != bt107.2.2.2) l0_0 a0_1 bt107.1 bt107.2.1 bt114.1 bt114.2 bt119.1 bt119.2.1) else (laws_FnExactRoundsOf.j0 k a1 bt107.2.2.1 bt107.2.2.2 bt119.2.2.1 bt119.2.2.2 true l0_0 a0_1 bt107.1 bt107.2.1 bt114.1 bt114.2 bt119.1 bt119.2.1)) else (laws_FnExactRoundsOf.j0 k a1 bt107.2.2.1 bt107.2.2.2 bt119.2.2.1 bt119.2.2.2 true l0_0 a0_1 bt107.1 bt107.2.1 bt114.1 bt114.2 bt119.1 bt119.2.1))))))))) = some r := h
  clear h
  replace H := Option.bind_eq_some_iff.mp H
  obtain ⟨t102, A30, H⟩ := H
  replace H : (if t102 < 0 then (some true) else ((laws_toShares.f k l0_0 a0_1).bind fun bt103 => ((spec_RoundsOf.f k bt103.1 bt103.2 a1).bind fun bt107 => ((laws_toShares.f k l0_0 a0_1).bind fun bt114 => ((impl_RoundsOf.f k bt114.1 bt114.2 a1).bind fun bt119 => ((laws_eqShares.f k bt119.1 bt119.2.1 bt107.1 bt107.2.1).bind fun t126 => (if t126 = true then (if bt119.2.2.1 = bt107.2.2.1 then (laws_FnExactRoundsOf.j0 k a1 bt107.2.2.1 bt107.2.2.2 bt119.2.2.1 bt119.2.2.2 (bt119.2.2.2 != bt107.2.2.2) l0_0 a0_1 bt107.1 bt107.2.1 bt114.1 bt114.2 bt119.1 bt119.2.1) else (laws_FnExactRoundsOf.j0 k a1 bt107.2.2.1 bt107.2.2.2 bt119.2.2.1 bt119.2.2.2 true l0_0 a0_1 bt107.1 bt107.2.1 bt114.1 bt114.2 bt119.1 bt119.2.1)) else (laws_FnExactRoundsOf.j0 k a1 bt107.2.2.1 bt107.2.2.2 bt119.2.2.1 bt119.2.2.2 true l0_0 a0_1 bt107.1 bt107.2.1 bt114.1 bt114.2 bt119.1 bt119.2.1)))))))) = some r := H
  have A3 := Aside0.mk A30
  clear A30
  by_cases c4 : t102 < 0
  · rw [if_pos c4] at H
    have c4b0 : decide (t102 < 0) = true := decide_eq_true c4
    clear c4
    obtain rfl := Option.some.inj H
    go_enter Try.func10, Try.ntmps10
    go_wp2_with (first | ((with_reducible refine gate_dst (N := 2) rfl ?_); refine box_event ?hg (N := 2) ?hd (cs := #[.slice A0_0 l0_0.length c0_0, .int .i64 a0_1]) (t := 24) ?hr ?_; (case hd => rfl); (case hg => rfl); (case hr => first | (go_simp; done) | (go_simp; rfl)); intro gb101 hg w5 hbox hb; have n0_ := Aside0.mk (below_step (by repeat (first | (with_reducible first | exact HB.out | apply below_alloc | apply pw_below_drewN | apply below_drew1) | exact HB.out)) hb); have n1_ := Aside0.mk (hbox); have n2_ := Aside0.mk ((by rw [hg]; exact (below_size (by repeat (first | (with_reducible first | exact HB.out | apply below_alloc | apply pw_below_drewN | apply below_drew1) | exact HB.out))) : w.heap.size ≤ gb101)); have n3_ := Aside0.mk ((by rw [hg]; exact (below_size (by repeat (first | (with_reducible first | exact HB.out | apply below_alloc | apply pw_below_drewN | apply below_drew1) | exact HB.out))) : w.heap.size ≤ gb101)); clear HB; have HB := n0_; have BK101 := n1_; have GW101 := n2_; have GE101 := n3_; clear n0_ n1_ n2_ n3_; clear hb hbox hg; have hcz6_0 : w5.cell? ⟨gb101, 0, none⟩ = some (.slice A0_0 l0_0.length c0_0) := (blk_cell BK101.out 0).trans rfl; have hcz6_1 : w5.cell? ⟨gb101, 1, none⟩ = some (.int .i64 a0_1) := (blk_cell BK101.out 1).trans rfl; have hfz6_0 := blk_frozen BK101.out 0; have hfz6_1 := blk_frozen BK101.out 1) | ((with_reducible refine gate_callee (f := 11) rfl ?_); refine goesL_ (some 21) rfl rfl Try.func11 (by kernel_rfl) rfl #[.agg #[.slice A0_0 l0_0.length c0_0, .int .i64 a0_1], .int .i64 1048576] rfl (by (try simp only [List.map_toArray, List.map_cons, List.map_nil]); first | done | rfl | (simp only [List.length_drop, List.length_take]; rfl)) ?_; (with_reducible refine (laws_szShares.calls _ _ l0_0 a0_1 1048576 t102 _ ?side1 ?side2 A3.out).mono ?_); (case side1 => repeat (first | exact (Kd.C_below HR0_0.out HB.out) | (with_reducible refine Kd.C_alloc ?_ _) | (with_reducible refine Kd.C_drewN ?_ _) | (with_reducible refine Kd.C_drew ?_))); (case side2 => exact HC0_0.out); rintro e w7 ⟨rfl, hb⟩; refine ⟨_, rfl, ?_⟩; have n0_ := Aside0.mk (blk_below (g := gb101) (o := .cells #[.slice A0_0 l0_0.length c0_0, .int .i64 a0_1] 24 (0, 0)) (by (with_reducible repeat first | apply blk_drewN | apply blk_drew | apply blk_alloc); exact BK101.out) hb); have n1_ := Aside0.mk (below_step (by repeat (first | (with_reducible first | exact HB.out | apply below_alloc | apply pw_below_drewN | apply below_drew1 | refine below_set ?_ GE101.out) | exact HB.out)) hb); clear BK101; clear HB; have BK101 := n0_; have HB := n1_; clear n0_ n1_; (try clear hb); (try clear hb2); (try clear hk); (try clear hi)))
    go_ret
    exact ⟨by first | rfl | (simp [errW_none, errW_some] <;> rfl) | (simp [*, errW_none, errW_some] <;> rfl), by repeat (first | (with_reducible first | exact HB.out | apply below_alloc | apply pw_below_drewN | apply below_drew1 | refine below_set ?_ GE101.out) | exact HB.out)⟩
  · rw [if_neg c4] at H
    have c4b0 : decide (t102 < 0) = false := decide_eq_false c4
    clear c4
    replace H := Option.bind_eq_some_iff.mp H
    obtain ⟨⟨t103, t106⟩, A80, H⟩ := H
    replace H : ((spec_RoundsOf.f k t103 t106 a1).bind fun bt107 => ((laws_toShares.f k l0_0 a0_1).bind fun bt114 => ((impl_RoundsOf.f k bt114.1 bt114.2 a1).bind fun bt119 => ((laws_eqShares.f k bt119.1 bt119.2.1 bt107.1 bt107.2.1).bind fun t126 => (if t126 = true then (if bt119.2.2.1 = bt107.2.2.1 then (laws_FnExactRoundsOf.j0 k a1 bt107.2.2.1 bt107.2.2.2 bt119.2.2.1 bt119.2.2.2 (bt119.2.2.2 != bt107.2.2.2) l0_0 a0_1 bt107.1 bt107.2.1 bt114.1 bt114.2 bt119.1 bt119.2.1) else (laws_FnExactRoundsOf.j0 k a1 bt107.2.2.1 bt107.2.2.2 bt119.2.2.1 bt119.2.2.2 true l0_0 a0_1 bt107.1 bt107.2.1 bt114.1 bt114.2 bt119.1 bt119.2.1)) else (laws_FnExactRoundsOf.j0 k a1 bt107.2.2.1 bt107.2.2.2 bt119.2.2.1 bt119.2.2.2 true l0_0 a0_1 bt107.1 bt107.2.1 bt114.1 bt114.2 bt119.1 bt119.2.1)))))) = some r := H
    have A8 := Aside0.mk A80
    clear A80
    replace H := Option.bind_eq_some_iff.mp H
    obtain ⟨⟨t107, t110, t111, t112⟩, A90, H⟩ := H
    replace H : ((laws_toShares.f k l0_0 a0_1).bind fun bt114 => ((impl_RoundsOf.f k bt114.1 bt114.2 a1).bind fun bt119 => ((laws_eqShares.f k bt119.1 bt119.2.1 t107 t110).bind fun t126 => (if t126 = true then (if bt119.2.2.1 = t111 then (laws_FnExactRoundsOf.j0 k a1 t111 t112 bt119.2.2.1 bt119.2.2.2 (bt119.2.2.2 != t112) l0_0 a0_1 t107 t110 bt114.1 bt114.2 bt119.1 bt119.2.1) else (laws_FnExactRoundsOf.j0 k a1 t111 t112 bt119.2.2.1 bt119.2.2.2 true l0_0 a0_1 t107 t110 bt114.1 bt114.2 bt119.1 bt119.2.1)) else (laws_FnExactRoundsOf.j0 k a1 t111 t112 bt119.2.2.1 bt119.2.2.2 true l0_0 a0_1 t107 t110 bt114.1 bt114.2 bt119.1 bt119.2.1))))) = some r := H
    have A9 := Aside0.mk A90
    clear A90
    replace H := Option.bind_eq_some_iff.mp H
    obtain ⟨⟨t114, t117⟩, A100, H⟩ := H
    replace H : ((impl_RoundsOf.f k t114 t117 a1).bind fun bt119 => ((laws_eqShares.f k bt119.1 bt119.2.1 t107 t110).bind fun t126 => (if t126 = true then (if bt119.2.2.1 = t111 then (laws_FnExactRoundsOf.j0 k a1 t111 t112 bt119.2.2.1 bt119.2.2.2 (bt119.2.2.2 != t112) l0_0 a0_1 t107 t110 t114 t117 bt119.1 bt119.2.1) else (laws_FnExactRoundsOf.j0 k a1 t111 t112 bt119.2.2.1 bt119.2.2.2 true l0_0 a0_1 t107 t110 t114 t117 bt119.1 bt119.2.1)) else (laws_FnExactRoundsOf.j0 k a1 t111 t112 bt119.2.2.1 bt119.2.2.2 true l0_0 a0_1 t107 t110 t114 t117 bt119.1 bt119.2.1)))) = some r := H
    have A10 := Aside0.mk A100
    clear A100
    replace H := Option.bind_eq_some_iff.mp H
    obtain ⟨⟨t119, t122, t123, t124⟩, A110, H⟩ := H
    replace H : ((laws_eqShares.f k t119 t122 t107 t110).bind fun t126 => (if t126 = true then (if t123 = t111 then (laws_FnExactRoundsOf.j0 k a1 t111 t112 t123 t124 (t124 != t112) l0_0 a0_1 t107 t110 t114 t117 t119 t122) else (laws_FnExactRoundsOf.j0 k a1 t111 t112 t123 t124 true l0_0 a0_1 t107 t110 t114 t117 t119 t122)) else (laws_FnExactRoundsOf.j0 k a1 t111 t112 t123 t124 true l0_0 a0_1 t107 t110 t114 t117 t119 t122))) = some r := H
    have A11 := Aside0.mk A110
    clear A110
    have HC12 := Aside0.mk H
    clear H
    go_enter Try.func10, Try.ntmps10
    go_upto_region 8 with (first | ((with_reducible refine gate_dst (N := 2) rfl ?_); refine box_event ?hg (N := 2) ?hd (cs := #[.slice A0_0 l0_0.length c0_0, .int .i64 a0_1]) (t := 24) ?hr ?_; (case hd => rfl); (case hg => rfl); (case hr => first | (go_simp; done) | (go_simp; rfl)); intro gb101 hg w13 hbox hb; have n0_ := Aside0.mk (below_step (by repeat (first | (with_reducible first | exact HB.out | apply below_alloc | apply pw_below_drewN | apply below_drew1) | exact HB.out)) hb); have n1_ := Aside0.mk (hbox); have n2_ := Aside0.mk ((by rw [hg]; exact (below_size (by repeat (first | (with_reducible first | exact HB.out | apply below_alloc | apply pw_below_drewN | apply below_drew1) | exact HB.out))) : w.heap.size ≤ gb101)); have n3_ := Aside0.mk ((by rw [hg]; exact (below_size (by repeat (first | (with_reducible first | exact HB.out | apply below_alloc | apply pw_below_drewN | apply below_drew1) | exact HB.out))) : w.heap.size ≤ gb101)); clear HB; have HB := n0_; have BK101 := n1_; have GW101 := n2_; have GE101 := n3_; clear n0_ n1_ n2_ n3_; clear hb hbox hg; have hcz14_0 : w13.cell? ⟨gb101, 0, none⟩ = some (.slice A0_0 l0_0.length c0_0) := (blk_cell BK101.out 0).trans rfl; have hcz14_1 : w13.cell? ⟨gb101, 1, none⟩ = some (.int .i64 a0_1) := (blk_cell BK101.out 1).trans rfl; have hfz14_0 := blk_frozen BK101.out 0; have hfz14_1 := blk_frozen BK101.out 1) | ((with_reducible refine gate_callee (f := 11) rfl ?_); refine goesL_ (some 21) rfl rfl Try.func11 (by kernel_rfl) rfl #[.agg #[.slice A0_0 l0_0.length c0_0, .int .i64 a0_1], .int .i64 1048576] rfl (by (try simp only [List.map_toArray, List.map_cons, List.map_nil]); first | done | rfl | (simp only [List.length_drop, List.length_take]; rfl)) ?_; (with_reducible refine (laws_szShares.calls _ _ l0_0 a0_1 1048576 t102 _ ?side1 ?side2 A3.out).mono ?_); (case side1 => repeat (first | exact (Kd.C_below HR0_0.out HB.out) | (with_reducible refine Kd.C_alloc ?_ _) | (with_reducible refine Kd.C_drewN ?_ _) | (with_reducible refine Kd.C_drew ?_))); (case side2 => exact HC0_0.out); rintro e w15 ⟨rfl, hb⟩; refine ⟨_, rfl, ?_⟩; have n0_ := Aside0.mk (blk_below (g := gb101) (o := .cells #[.slice A0_0 l0_0.length c0_0, .int .i64 a0_1] 24 (0, 0)) (by (with_reducible repeat first | apply blk_drewN | apply blk_drew | apply blk_alloc); exact BK101.out) hb); have n1_ := Aside0.mk (below_step (by repeat (first | (with_reducible first | exact HB.out | apply below_alloc | apply pw_below_drewN | apply below_drew1 | refine below_set ?_ GE101.out) | exact HB.out)) hb); clear BK101; clear HB; have BK101 := n0_; have HB := n1_; clear n0_ n1_; (try clear hb); (try clear hb2); (try clear hk); (try clear hi); have hcz16_0 : w15.cell? ⟨gb101, 0, none⟩ = some (.slice A0_0 l0_0.length c0_0) := (blk_cell BK101.out 0).trans rfl; have hcz16_1 : w15.cell? ⟨gb101, 1, none⟩ = some (.int .i64 a0_1) := (blk_cell BK101.out 1).trans rfl; have hfz16_0 := blk_frozen BK101.out 0; have hfz16_1 := blk_frozen BK101.out 1) | ((with_reducible refine gate_callee (f := 13) rfl ?_); refine goesL_ (some 26) rfl rfl Try.func13 (by kernel_rfl) rfl #[.agg #[.slice A0_0 l0_0.length c0_0, .int .i64 a0_1]] rfl (by (try simp only [List.map_toArray, List.map_cons, List.map_nil]); first | done | rfl | (simp only [List.length_drop, List.length_take]; rfl)) ?_; (with_reducible refine (laws_toShares.calls k _ _ l0_0 a0_1 t103 t106 _ ?side1 ?side2 A8.out).mono ?_); (case side1 => repeat (first | exact (Kd.C_below HR0_0.out HB.out) | (with_reducible refine Kd.C_alloc ?_ _) | (with_reducible refine Kd.C_drewN ?_ _) | (with_reducible refine Kd.C_drew ?_))); (case side2 => exact HC0_0.out); rintro e w17 ⟨v104, rfl, ho0, hb⟩; refine ⟨_, rfl, ?_⟩; have n0_ := Aside0.mk (Kd.R_lower ho0 (below_size (by repeat (first | (with_reducible first | exact HB.out | apply below_alloc | apply pw_below_drewN | apply below_drew1 | refine below_set ?_ GE101.out) | exact HB.out)))); have n1_ := Aside0.mk (blk_below (g := gb101) (o := .cells #[.slice A0_0 l0_0.length c0_0, .int .i64 a0_1] 24 (0, 0)) (by (with_reducible repeat first | apply blk_drewN | apply blk_drew | apply blk_alloc); exact BK101.out) hb); have n2_ := Aside0.mk (below_step (by repeat (first | (with_reducible first | exact HB.out | apply below_alloc | apply pw_below_drewN | apply below_drew1 | refine below_set ?_ GE101.out) | exact HB.out)) hb); clear BK101; clear HB; have HO105 := n0_; have BK101 := n1_; have HB := n2_; clear n0_ n1_ n2_; (try clear hb); (try clear hb2); (try clear hk); (try clear hi); (try clear ho0); obtain ⟨Ao18, co18, eo18⟩ := Kd.R_slice HO105.out; subst eo18) | ((with_reducible refine gate_callee (f := 30) rfl ?_); refine goesL_ (some 28) rfl rfl Try.func30 (by kernel_rfl) rfl #[.agg #[.slice Ao18 t103.length co18, .int .i64 t106], .int .i64 a1] rfl (by (try simp only [List.map_toArray, List.map_cons, List.map_nil]); first | done | rfl | (simp only [List.length_drop, List.length_take]; rfl)) ?_; (with_reducible refine (spec_RoundsOf.calls k _ _ t103 t106 a1 t107 t110 t111 t112 _ ?side1 ?side2 A9.out).mono ?_); (case side1 => repeat (first | exact (Kd.R_reads' HO105.out).2.2 | (with_reducible refine Kd.C_alloc ?_ _) | (with_reducible refine Kd.C_drewN ?_ _) | (with_reducible refine Kd.C_drew ?_))); (case side2 => exact (Kd.R_reads' HO105.out).2.1); rintro e w19 ⟨v108, rfl, ho0, hb⟩; refine ⟨_, rfl, ?_⟩; have n0_ := Aside0.mk (Kd.R_elder' (by (with_reducible repeat (first | apply Kd.R_alloc | apply Kd.R_drewN | apply Kd.R_drew)); exact HO105.out) (Kd.R_base ho0) hb); have n1_ := Aside0.mk (Kd.R_lower (Kd.R_new' ho0 (Kd.R_lt (by (with_reducible repeat (first | apply Kd.R_alloc | apply Kd.R_drewN | apply Kd.R_drew)); exact HO105.out))) (below_size (by repeat (first | (with_reducible first | exact HB.out | apply below_alloc | apply pw_below_drewN | apply below_drew1 | refine below_set ?_ GE101.out) | exact HB.out)))); have n2_ := Aside0.mk (blk_below (g := gb101) (o := .cells #[.slice A0_0 l0_0.length c0_0, .int .i64 a0_1] 24 (0, 0)) (by (with_reducible repeat first | apply blk_drewN | apply blk_drew | apply blk_alloc); exact BK101.out) hb); have n3_ := Aside0.mk (below_step (by repeat (first | (with_reducible first | exact HB.out | apply below_alloc | apply pw_below_drewN | apply below_drew1 | refine below_set ?_ GE101.out) | exact HB.out)) hb); clear HO105; clear BK101; clear HB; have HO105 := n0_; have HO109 := n1_; have BK101 := n2_; have HB := n3_; clear n0_ n1_ n2_ n3_; (try clear hb); (try clear hb2); (try clear hk); (try clear hi); (try clear ho0)) | ((with_reducible refine gate_dst (N := 6) rfl ?_); refine box_event ?hg (N := 6) ?hd (cs := #[.slice none 0 0, .int .i64 0]) (t := 27) ?hr ?_; (case hd => rfl); (case hg => rfl); (case hr => first | (go_simp; done) | (go_simp; rfl)); intro gb113 hg w20 hbox hb; have n0_ := Aside0.mk (Kd.R_below (by (with_reducible repeat (first | apply Kd.R_alloc | apply Kd.R_drewN | apply Kd.R_drew)); exact HO105.out) hb); have n1_ := Aside0.mk (Kd.R_below (by (with_reducible repeat (first | apply Kd.R_alloc | apply Kd.R_drewN | apply Kd.R_drew)); exact HO109.out) hb); have n2_ := Aside0.mk (blk_below (g := gb101) (o := .cells #[.slice A0_0 l0_0.length c0_0, .int .i64 a0_1] 24 (0, 0)) (by (with_reducible repeat first | apply blk_drewN | apply blk_drew | apply blk_alloc); exact BK101.out) hb); have n3_ := Aside0.mk (below_step (by repeat (first | (with_reducible first | exact HB.out | apply below_alloc | apply pw_below_drewN | apply below_drew1 | refine below_set ?_ GE101.out) | exact HB.out)) hb); have n4_ := Aside0.mk (hbox); have n5_ := Aside0.mk ((by rw [hg]; exact (below_size (by repeat (first | (with_reducible first | exact HB.out | apply below_alloc | apply pw_below_drewN | apply below_drew1 | refine below_set ?_ GE101.out) | exact HB.out))) : w.heap.size ≤ gb113)); have n6_ := Aside0.mk ((by rw [hg]; exact (below_size (by repeat (first | (with_reducible first | exact HB.out | apply below_alloc | apply pw_below_drewN | apply below_drew1 | refine below_set ?_ GE101.out) | exact HB.out))) : w.heap.size ≤ gb113)); have n7_ := Aside0.mk ((by rw [hg]; exact Nat.ne_of_lt (blk_lt (g := gb101) (o := .cells #[.slice A0_0 l0_0.length c0_0, .int .i64 a0_1] 24 (0, 0)) (by (with_reducible repeat first | apply blk_drewN | apply blk_drew | apply blk_alloc); exact BK101.out)) : gb101 ≠ gb113)); have n8_ := Aside0.mk ((by rw [hg]; exact Nat.ne_of_gt (blk_lt (g := gb101) (o := .cells #[.slice A0_0 l0_0.length c0_0, .int .i64 a0_1] 24 (0, 0)) (by (with_reducible repeat first | apply blk_drewN | apply blk_drew | apply blk_alloc); exact BK101.out)) : gb113 ≠ gb101)); clear HO105; clear HO109; clear BK101; clear HB; have HO105 := n0_; have HO109 := n1_; have BK101 := n2_; have HB := n3_; have BK113 := n4_; have GW113 := n5_; have GE113 := n6_; have NB101_113 := n7_; have NB113_101 := n8_; clear n0_ n1_ n2_ n3_ n4_ n5_ n6_ n7_ n8_; clear hb hbox hg; obtain ⟨Ao21, co21, eo21⟩ := Kd.R_slice HO109.out; subst eo21; have hnb22 := NB113_101.out; have hnc22 := NB101_113.out; have hcz23_0 : w20.cell? ⟨gb113, 0, none⟩ = some (.slice none 0 0) := (blk_cell BK113.out 0).trans rfl; have hcz23_1 : w20.cell? ⟨gb113, 1, none⟩ = some (.int .i64 0) := (blk_cell BK113.out 1).trans rfl; have hfz23_0 := blk_frozen BK113.out 0; have hfz23_1 := blk_frozen BK113.out 1; have hcz24_0 : w20.cell? ⟨gb101, 0, none⟩ = some (.slice A0_0 l0_0.length c0_0) := (blk_cell BK101.out 0).trans rfl; have hcz24_1 : w20.cell? ⟨gb101, 1, none⟩ = some (.int .i64 a0_1) := (blk_cell BK101.out 1).trans rfl; have hfz24_0 := blk_frozen BK101.out 0; have hfz24_1 := blk_frozen BK101.out 1) | ((with_reducible refine gate_callee (f := 13) rfl ?_); refine goesL_ (some 33) rfl rfl Try.func13 (by kernel_rfl) rfl #[.agg #[.slice A0_0 l0_0.length c0_0, .int .i64 a0_1]] rfl (by (try simp only [List.map_toArray, List.map_cons, List.map_nil]); first | done | rfl | (simp only [List.length_drop, List.length_take]; rfl)) ?_; (with_reducible refine (laws_toShares.calls k _ _ l0_0 a0_1 t114 t117 _ ?side1 ?side2 A10.out).mono ?_); (case side1 => exact Kd.C_below HR0_0.out (by repeat (first | (with_reducible first | exact HB.out | apply below_alloc | apply pw_below_drewN | apply below_drew1 | refine below_set ?_ GE101.out | refine below_set ?_ GE113.out) | exact HB.out))); (case side2 => exact HC0_0.out); rintro e w25 ⟨v115, rfl, ho0, hb⟩; refine ⟨_, rfl, ?_⟩; have n0_ := Aside0.mk (Kd.R_elder' (by (with_reducible repeat (first | apply Kd.R_alloc | apply Kd.R_drewN | apply Kd.R_drew)); exact (Kd.R_mono (Kd.R_far (p := ⟨gb113, 1, none⟩) (Kd.R_far (p := ⟨gb113, 0, none⟩) (Kd.R_types HO105.out BK113.out (by decide)) (fun _ hk => hk.2) (.slice Ao21 t107.length co21)) (fun _ hk => hk.2) (.int .i64 t110)) (fun _ h_ => h_.1))) (Kd.R_base ho0) hb); have n1_ := Aside0.mk (Kd.R_elder' (by (with_reducible repeat (first | apply Kd.R_alloc | apply Kd.R_drewN | apply Kd.R_drew)); exact (Kd.R_mono (Kd.R_far (p := ⟨gb113, 1, none⟩) (Kd.R_far (p := ⟨gb113, 0, none⟩) (Kd.R_types HO109.out BK113.out (by decide)) (fun _ hk => hk.2) (.slice Ao21 t107.length co21)) (fun _ hk => hk.2) (.int .i64 t110)) (fun _ h_ => h_.1))) (Kd.R_base ho0) hb); have n2_ := Aside0.mk (Kd.R_lower (Kd.R_new' (Kd.R_new' ho0 (Kd.R_lt (by (with_reducible repeat (first | apply Kd.R_alloc | apply Kd.R_drewN | apply Kd.R_drew)); exact (Kd.R_mono (Kd.R_far (p := ⟨gb113, 1, none⟩) (Kd.R_far (p := ⟨gb113, 0, none⟩) (Kd.R_types HO105.out BK113.out (by decide)) (fun _ hk => hk.2) (.slice Ao21 t107.length co21)) (fun _ hk => hk.2) (.int .i64 t110)) (fun _ h_ => h_.1))))) (Kd.R_lt (by (with_reducible repeat (first | apply Kd.R_alloc | apply Kd.R_drewN | apply Kd.R_drew)); exact (Kd.R_mono (Kd.R_far (p := ⟨gb113, 1, none⟩) (Kd.R_far (p := ⟨gb113, 0, none⟩) (Kd.R_types HO109.out BK113.out (by decide)) (fun _ hk => hk.2) (.slice Ao21 t107.length co21)) (fun _ hk => hk.2) (.int .i64 t110)) (fun _ h_ => h_.1))))) (below_size (by repeat (first | (with_reducible first | exact HB.out | apply below_alloc | apply pw_below_drewN | apply below_drew1 | refine below_set ?_ GE101.out | refine below_set ?_ GE113.out) | exact HB.out)))); have n3_ := Aside0.mk (blk_below (g := gb101) (o := .cells #[.slice A0_0 l0_0.length c0_0, .int .i64 a0_1] 24 (0, 0)) (by (with_reducible repeat first | apply blk_drewN | apply blk_drew | apply blk_alloc); refine blk_far ?_ NB101_113.out _; (with_reducible repeat first | apply blk_drewN | apply blk_drew | apply blk_alloc); refine blk_far ?_ NB101_113.out _; (with_reducible repeat first | apply blk_drewN | apply blk_drew | apply blk_alloc); exact BK101.out) hb); have n4_ := Aside0.mk (blk_below (g := gb113) (o := .cells #[.slice Ao21 t107.length co21, .int .i64 t110] 27 (0, 0)) (by (with_reducible repeat first | apply blk_drewN | apply blk_drew | apply blk_alloc); refine blk_put (cs := #[.slice Ao21 t107.length co21, .int .i64 0]) ?_ 1 _ rfl; (with_reducible repeat first | apply blk_drewN | apply blk_drew | apply blk_alloc); refine blk_put (cs := #[.slice none 0 0, .int .i64 0]) ?_ 0 _ rfl; (with_reducible repeat first | apply blk_drewN | apply blk_drew | apply blk_alloc); exact BK113.out) hb); have n5_ := Aside0.mk (below_step (by repeat (first | (with_reducible first | exact HB.out | apply below_alloc | apply pw_below_drewN | apply below_drew1 | refine below_set ?_ GE101.out | refine below_set ?_ GE113.out) | exact HB.out)) hb); clear HO105; clear HO109; clear BK101; clear BK113; clear HB; have HO105 := n0_; have HO109 := n1_; have HO116 := n2_; have BK101 := n3_; have BK113 := n4_; have HB := n5_; clear n0_ n1_ n2_ n3_ n4_ n5_; (try clear hb); (try clear hb2); (try clear hk); (try clear hi); (try clear ho0)) | ((with_reducible refine gate_dst (N := 9) rfl ?_); refine box_event ?hg (N := 9) ?hd (cs := #[.slice none 0 0, .int .i64 0]) (t := 27) ?hr ?_; (case hd => rfl); (case hg => rfl); (case hr => first | (go_simp; done) | (go_simp; rfl)); intro gb118 hg w26 hbox hb; have n0_ := Aside0.mk (Kd.R_below (by (with_reducible repeat (first | apply Kd.R_alloc | apply Kd.R_drewN | apply Kd.R_drew)); exact HO105.out) hb); have n1_ := Aside0.mk (Kd.R_below (by (with_reducible repeat (first | apply Kd.R_alloc | apply Kd.R_drewN | apply Kd.R_drew)); exact HO109.out) hb); have n2_ := Aside0.mk (Kd.R_below (by (with_reducible repeat (first | apply Kd.R_alloc | apply Kd.R_drewN | apply Kd.R_drew)); exact HO116.out) hb); have n3_ := Aside0.mk (blk_below (g := gb101) (o := .cells #[.slice A0_0 l0_0.length c0_0, .int .i64 a0_1] 24 (0, 0)) (by (with_reducible repeat first | apply blk_drewN | apply blk_drew | apply blk_alloc); exact BK101.out) hb); have n4_ := Aside0.mk (blk_below (g := gb113) (o := .cells #[.slice Ao21 t107.length co21, .int .i64 t110] 27 (0, 0)) (by (with_reducible repeat first | apply blk_drewN | apply blk_drew | apply blk_alloc); exact BK113.out) hb); have n5_ := Aside0.mk (below_step (by repeat (first | (with_reducible first | exact HB.out | apply below_alloc | apply pw_below_drewN | apply below_drew1 | refine below_set ?_ GE101.out | refine below_set ?_ GE113.out) | exact HB.out)) hb); have n6_ := Aside0.mk (hbox); have n7_ := Aside0.mk ((by rw [hg]; exact (below_size (by repeat (first | (with_reducible first | exact HB.out | apply below_alloc | apply pw_below_drewN | apply below_drew1 | refine below_set ?_ GE101.out | refine below_set ?_ GE113.out) | exact HB.out))) : w.heap.size ≤ gb118)); have n8_ := Aside0.mk ((by rw [hg]; exact (below_size (by repeat (first | (with_reducible first | exact HB.out | apply below_alloc | apply pw_below_drewN | apply below_drew1 | refine below_set ?_ GE101.out | refine below_set ?_ GE113.out) | exact HB.out))) : w.heap.size ≤ gb118)); have n9_ := Aside0.mk ((by rw [hg]; exact Nat.ne_of_lt (blk_lt (g := gb101) (o := .cells #[.slice A0_0 l0_0.length c0_0, .int .i64 a0_1] 24 (0, 0)) (by (with_reducible repeat first | apply blk_drewN | apply blk_drew | apply blk_alloc); exact BK101.out)) : gb101 ≠ gb118)); have n10_ := Aside0.mk ((by rw [hg]; exact Nat.ne_of_gt (blk_lt (g := gb101) (o := .cells #[.slice A0_0 l0_0.length c0_0, .int .i64 a0_1] 24 (0, 0)) (by (with_reducible repeat first | apply blk_drewN | apply blk_drew | apply blk_alloc); exact BK101.out)) : gb118 ≠ gb101)); have n11_ := Aside0.mk ((by rw [hg]; exact Nat.ne_of_lt (blk_lt (g := gb113) (o := .cells #[.slice Ao21 t107.length co21, .int .i64 t110] 27 (0, 0)) (by (with_reducible repeat first | apply blk_drewN | apply blk_drew | apply blk_alloc); exact BK113.out)) : gb113 ≠ gb118)); have n12_ := Aside0.mk ((by rw [hg]; exact Nat.ne_of_gt (blk_lt (g := gb113) (o := .cells #[.slice Ao21 t107.length co21, .int .i64 t110] 27 (0, 0)) (by (with_reducible repeat first | apply blk_drewN | apply blk_drew | apply blk_alloc); exact BK113.out)) : gb118 ≠ gb113)); clear HO105; clear HO109; clear HO116; clear BK101; clear BK113; clear HB; have HO105 := n0_; have HO109 := n1_; have HO116 := n2_; have BK101 := n3_; have BK113 := n4_; have HB := n5_; have BK118 := n6_; have GW118 := n7_; have GE118 := n8_; have NB101_118 := n9_; have NB118_101 := n10_; have NB113_118 := n11_; have NB118_113 := n12_; clear n0_ n1_ n2_ n3_ n4_ n5_ n6_ n7_ n8_ n9_ n10_ n11_ n12_; clear hb hbox hg; obtain ⟨Ao27, co27, eo27⟩ := Kd.R_slice HO116.out; subst eo27; have hnb28 := NB118_101.out; have hnc28 := NB101_118.out; have hnb29 := NB118_113.out; have hnc29 := NB113_118.out; have hcz30_0 : w26.cell? ⟨gb118, 0, none⟩ = some (.slice none 0 0) := (blk_cell BK118.out 0).trans rfl; have hcz30_1 : w26.cell? ⟨gb118, 1, none⟩ = some (.int .i64 0) := (blk_cell BK118.out 1).trans rfl; have hfz30_0 := blk_frozen BK118.out 0; have hfz30_1 := blk_frozen BK118.out 1) | ((with_reducible refine gate_callee (f := 31) rfl ?_); refine goesL_ (some 37) rfl rfl Try.func31 (by kernel_rfl) rfl #[.agg #[.slice Ao27 t114.length co27, .int .i64 t117], .int .i64 a1] rfl (by (try simp only [List.map_toArray, List.map_cons, List.map_nil]); first | done | rfl | (simp only [List.length_drop, List.length_take]; rfl)) ?_; (with_reducible refine (impl_RoundsOf.calls k _ _ t114 t117 a1 t119 t122 t123 t124 _ ?side1 ?side2 A11.out).mono ?_); (case side1 => refine (Kd.R_reads' (e := 3) (base := w.heap.size) (ok := fun k_ => ((True ∧ some k_ ≠ (.slice Ao18 t103.length co18 : Value).ownBlock) ∧ some k_ ≠ (.slice Ao21 t107.length co21 : Value).ownBlock)) (n := t114.length) (c := co27) ?_).2.2; exact (by (with_reducible repeat (first | apply Kd.R_alloc | apply Kd.R_drewN | apply Kd.R_drew)); exact (Kd.R_mono (Kd.R_far (p := ⟨gb118, 1, none⟩) (Kd.R_far (p := ⟨gb118, 0, none⟩) (Kd.R_types HO116.out BK118.out (by decide)) (fun _ hk => hk.2) (.slice Ao27 t114.length co27)) (fun _ hk => hk.2) (.int .i64 t117)) (fun _ h_ => h_.1)))); (case side2 => exact (Kd.R_reads' HO116.out).2.1); rintro e w31 ⟨v120, rfl, ho0, hb⟩; refine ⟨_, rfl, ?_⟩; have n0_ := Aside0.mk (Kd.R_elder' (by (with_reducible repeat (first | apply Kd.R_alloc | apply Kd.R_drewN | apply Kd.R_drew)); exact (Kd.R_mono (Kd.R_far (p := ⟨gb118, 1, none⟩) (Kd.R_far (p := ⟨gb118, 0, none⟩) (Kd.R_types HO105.out BK118.out (by decide)) (fun _ hk => hk.2) (.slice Ao27 t114.length co27)) (fun _ hk => hk.2) (.int .i64 t117)) (fun _ h_ => h_.1))) (Kd.R_base ho0) hb); have n1_ := Aside0.mk (Kd.R_elder' (by (with_reducible repeat (first | apply Kd.R_alloc | apply Kd.R_drewN | apply Kd.R_drew)); exact (Kd.R_mono (Kd.R_far (p := ⟨gb118, 1, none⟩) (Kd.R_far (p := ⟨gb118, 0, none⟩) (Kd.R_types HO109.out BK118.out (by decide)) (fun _ hk => hk.2) (.slice Ao27 t114.length co27)) (fun _ hk => hk.2) (.int .i64 t117)) (fun _ h_ => h_.1))) (Kd.R_base ho0) hb); have n2_ := Aside0.mk (Kd.R_elder' (by (with_reducible repeat (first | apply Kd.R_alloc | apply Kd.R_drewN | apply Kd.R_drew)); exact (Kd.R_mono (Kd.R_far (p := ⟨gb118, 1, none⟩) (Kd.R_far (p := ⟨gb118, 0, none⟩) (Kd.R_types HO116.out BK118.out (by decide)) (fun _ hk => hk.2) (.slice Ao27 t114.length co27)) (fun _ hk => hk.2) (.int .i64 t117)) (fun _ h_ => h_.1))) (Kd.R_base ho0) hb); have n3_ := Aside0.mk (Kd.R_lower (Kd.R_new' (Kd.R_new' (Kd.R_new' ho0 (Kd.R_lt (by (with_reducible repeat (first | apply Kd.R_alloc | apply Kd.R_drewN | apply Kd.R_drew)); exact (Kd.R_mono (Kd.R_far (p := ⟨gb118, 1, none⟩) (Kd.R_far (p := ⟨gb118, 0, none⟩) (Kd.R_types HO105.out BK118.out (by decide)) (fun _ hk => hk.2) (.slice Ao27 t114.length co27)) (fun _ hk => hk.2) (.int .i64 t117)) (fun _ h_ => h_.1))))) (Kd.R_lt (by (with_reducible repeat (first | apply Kd.R_alloc | apply Kd.R_drewN | apply Kd.R_drew)); exact (Kd.R_mono (Kd.R_far (p := ⟨gb118, 1, none⟩) (Kd.R_far (p := ⟨gb118, 0, none⟩) (Kd.R_types HO109.out BK118.out (by decide)) (fun _ hk => hk.2) (.slice Ao27 t114.length co27)) (fun _ hk => hk.2) (.int .i64 t117)) (fun _ h_ => h_.1))))) (Kd.R_lt (by (with_reducible repeat (first | apply Kd.R_alloc | apply Kd.R_drewN | apply Kd.R_drew)); exact (Kd.R_mono (Kd.R_far (p := ⟨gb118, 1, none⟩) (Kd.R_far (p := ⟨gb118, 0, none⟩) (Kd.R_types HO116.out BK118.out (by decide)) (fun _ hk => hk.2) (.slice Ao27 t114.length co27)) (fun _ hk => hk.2) (.int .i64 t117)) (fun _ h_ => h_.1))))) (below_size (by repeat (first | (with_reducible first | exact HB.out | apply below_alloc | apply pw_below_drewN | apply below_drew1 | refine below_set ?_ GE101.out | refine below_set ?_ GE113.out | refine below_set ?_ GE118.out) | exact HB.out)))); have n4_ := Aside0.mk (blk_below (g := gb101) (o := .cells #[.slice A0_0 l0_0.length c0_0, .int .i64 a0_1] 24 (0, 0)) (by (with_reducible repeat first | apply blk_drewN | apply blk_drew | apply blk_alloc); refine blk_far ?_ NB101_118.out _; (with_reducible repeat first | apply blk_drewN | apply blk_drew | apply blk_alloc); refine blk_far ?_ NB101_118.out _; (with_reducible repeat first | apply blk_drewN | apply blk_drew | apply blk_alloc); exact BK101.out) hb); have n5_ := Aside0.mk (blk_below (g := gb113) (o := .cells #[.slice Ao21 t107.length co21, .int .i64 t110] 27 (0, 0)) (by (with_reducible repeat first | apply blk_drewN | apply blk_drew | apply blk_alloc); refine blk_far ?_ NB113_118.out _; (with_reducible repeat first | apply blk_drewN | apply blk_drew | apply blk_alloc); refine blk_far ?_ NB113_118.out _; (with_reducible repeat first | apply blk_drewN | apply blk_drew | apply blk_alloc); exact BK113.out) hb); have n6_ := Aside0.mk (blk_below (g := gb118) (o := .cells #[.slice Ao27 t114.length co27, .int .i64 t117] 27 (0, 0)) (by (with_reducible repeat first | apply blk_drewN | apply blk_drew | apply blk_alloc); refine blk_put (cs := #[.slice Ao27 t114.length co27, .int .i64 0]) ?_ 1 _ rfl; (with_reducible repeat first | apply blk_drewN | apply blk_drew | apply blk_alloc); refine blk_put (cs := #[.slice none 0 0, .int .i64 0]) ?_ 0 _ rfl; (with_reducible repeat first | apply blk_drewN | apply blk_drew | apply blk_alloc); exact BK118.out) hb); have n7_ := Aside0.mk (below_step (by repeat (first | (with_reducible first | exact HB.out | apply below_alloc | apply pw_below_drewN | apply below_drew1 | refine below_set ?_ GE101.out | refine below_set ?_ GE113.out | refine below_set ?_ GE118.out) | exact HB.out)) hb); clear HO105; clear HO109; clear HO116; clear BK101; clear BK113; clear BK118; clear HB; have HO105 := n0_; have HO109 := n1_; have HO116 := n2_; have HO121 := n3_; have BK101 := n4_; have BK113 := n5_; have BK118 := n6_; have HB := n7_; clear n0_ n1_ n2_ n3_ n4_ n5_ n6_ n7_; (try clear hb); (try clear hb2); (try clear hk); (try clear hi); (try clear ho0)) | ((with_reducible refine gate_dst (N := 10) rfl ?_); refine box_event ?hg (N := 10) ?hd (cs := #[.slice none 0 0, .int .i64 0]) (t := 27) ?hr ?_; (case hd => rfl); (case hg => rfl); (case hr => first | (go_simp; done) | (go_simp; rfl)); intro gb125 hg w32 hbox hb; have n0_ := Aside0.mk (Kd.R_below (by (with_reducible repeat (first | apply Kd.R_alloc | apply Kd.R_drewN | apply Kd.R_drew)); exact HO105.out) hb); have n1_ := Aside0.mk (Kd.R_below (by (with_reducible repeat (first | apply Kd.R_alloc | apply Kd.R_drewN | apply Kd.R_drew)); exact HO109.out) hb); have n2_ := Aside0.mk (Kd.R_below (by (with_reducible repeat (first | apply Kd.R_alloc | apply Kd.R_drewN | apply Kd.R_drew)); exact HO116.out) hb); have n3_ := Aside0.mk (Kd.R_below (by (with_reducible repeat (first | apply Kd.R_alloc | apply Kd.R_drewN | apply Kd.R_drew)); exact HO121.out) hb); have n4_ := Aside0.mk (blk_below (g := gb101) (o := .cells #[.slice A0_0 l0_0.length c0_0, .int .i64 a0_1] 24 (0, 0)) (by (with_reducible repeat first | apply blk_drewN | apply blk_drew | apply blk_alloc); exact BK101.out) hb); have n5_ := Aside0.mk (blk_below (g := gb113) (o := .cells #[.slice Ao21 t107.length co21, .int .i64 t110] 27 (0, 0)) (by (with_reducible repeat first | apply blk_drewN | apply blk_drew | apply blk_alloc); exact BK113.out) hb); have n6_ := Aside0.mk (blk_below (g := gb118) (o := .cells #[.slice Ao27 t114.length co27, .int .i64 t117] 27 (0, 0)) (by (with_reducible repeat first | apply blk_drewN | apply blk_drew | apply blk_alloc); exact BK118.out) hb); have n7_ := Aside0.mk (below_step (by repeat (first | (with_reducible first | exact HB.out | apply below_alloc | apply pw_below_drewN | apply below_drew1 | refine below_set ?_ GE101.out | refine below_set ?_ GE113.out | refine below_set ?_ GE118.out) | exact HB.out)) hb); have n8_ := Aside0.mk (hbox); have n9_ := Aside0.mk ((by rw [hg]; exact (below_size (by repeat (first | (with_reducible first | exact HB.out | apply below_alloc | apply pw_below_drewN | apply below_drew1 | refine below_set ?_ GE101.out | refine below_set ?_ GE113.out | refine below_set ?_ GE118.out) | exact HB.out))) : w.heap.size ≤ gb125)); have n10_ := Aside0.mk ((by rw [hg]; exact (below_size (by repeat (first | (with_reducible first | exact HB.out | apply below_alloc | apply pw_below_drewN | apply below_drew1 | refine below_set ?_ GE101.out | refine below_set ?_ GE113.out | refine below_set ?_ GE118.out) | exact HB.out))) : w.heap.size ≤ gb125)); have n11_ := Aside0.mk ((by rw [hg]; exact Nat.ne_of_lt (blk_lt (g := gb101) (o := .cells #[.slice A0_0 l0_0.length c0_0, .int .i64 a0_1] 24 (0, 0)) (by (with_reducible repeat first | apply blk_drewN | apply blk_drew | apply blk_alloc); exact BK101.out)) : gb101 ≠ gb125)); have n12_ := Aside0.mk ((by rw [hg]; exact Nat.ne_of_gt (blk_lt (g := gb101) (o := .cells #[.slice A0_0 l0_0.length c0_0, .int .i64 a0_1] 24 (0, 0)) (by (with_reducible repeat first | apply blk_drewN | apply blk_drew | apply blk_alloc); exact BK101.out)) : gb125 ≠ gb101)); have n13_ := Aside0.mk ((by rw [hg]; exact Nat.ne_of_lt (blk_lt (g := gb113) (o := .cells #[.slice Ao21 t107.length co21, .int .i64 t110] 27 (0, 0)) (by (with_reducible repeat first | apply blk_drewN | apply blk_drew | apply blk_alloc); exact BK113.out)) : gb113 ≠ gb125)); have n14_ := Aside0.mk ((by rw [hg]; exact Nat.ne_of_gt (blk_lt (g := gb113) (o := .cells #[.slice Ao21 t107.length co21, .int .i64 t110] 27 (0, 0)) (by (with_reducible repeat first | apply blk_drewN | apply blk_drew | apply blk_alloc); exact BK113.out)) : gb125 ≠ gb113)); have n15_ := Aside0.mk ((by rw [hg]; exact Nat.ne_of_lt (blk_lt (g := gb118) (o := .cells #[.slice Ao27 t114.length co27, .int .i64 t117] 27 (0, 0)) (by (with_reducible repeat first | apply blk_drewN | apply blk_drew | apply blk_alloc); exact BK118.out)) : gb118 ≠ gb125)); have n16_ := Aside0.mk ((by rw [hg]; exact Nat.ne_of_gt (blk_lt (g := gb118) (o := .cells #[.slice Ao27 t114.length co27, .int .i64 t117] 27 (0, 0)) (by (with_reducible repeat first | apply blk_drewN | apply blk_drew | apply blk_alloc); exact BK118.out)) : gb125 ≠ gb118)); clear HO105; clear HO109; clear HO116; clear HO121; clear BK101; clear BK113; clear BK118; clear HB; have HO105 := n0_; have HO109 := n1_; have HO116 := n2_; have HO121 := n3_; have BK101 := n4_; have BK113 := n5_; have BK118 := n6_; have HB := n7_; have BK125 := n8_; have GW125 := n9_; have GE125 := n10_; have NB101_125 := n11_; have NB125_101 := n12_; have NB113_125 := n13_; have NB125_113 := n14_; have NB118_125 := n15_; have NB125_118 := n16_; clear n0_ n1_ n2_ n3_ n4_ n5_ n6_ n7_ n8_ n9_ n10_ n11_ n12_ n13_ n14_ n15_ n16_; clear hb hbox hg; obtain ⟨Ao33, co33, eo33⟩ := Kd.R_slice HO121.out; subst eo33; have hnb34 := NB125_101.out; have hnc34 := NB101_125.out; have hnb35 := NB125_113.out; have hnc35 := NB113_125.out; have hnb36 := NB125_118.out; have hnc36 := NB118_125.out; have hcz37_0 : w32.cell? ⟨gb125, 0, none⟩ = some (.slice none 0 0) := (blk_cell BK125.out 0).trans rfl; have hcz37_1 : w32.cell? ⟨gb125, 1, none⟩ = some (.int .i64 0) := (blk_cell BK125.out 1).trans rfl; have hfz37_0 := blk_frozen BK125.out 0; have hfz37_1 := blk_frozen BK125.out 1))
    (try simp only [Act.put, List.setIfInBounds_toArray, List.set_cons_zero, List.set_cons_succ])
    go_cut [54] (fun v54 wc => ∃ (kq : Nat) (x54_11 : Bool), v54 = .bool x54_11 ∧ Aside0 (laws_FnExactRoundsOf.j0 kq a1 t111 t112 t123 t124 x54_11 l0_0 a0_1 t107 t110 t114 t117 t119 t122 = some r) ∧ Aside0 (kq ≤ k) ∧ Aside0 (Kd.R (Kd.int .i64) 3 wc w.heap.size (fun k_ => some k_ ≠ ((.slice Ao27 t114.length co27) : Value).ownBlock ∧ some k_ ≠ ((.slice Ao33 t119.length co33) : Value).ownBlock) (.slice Ao21 t107.length co21) t107) ∧ Aside0 (Kd.R (Kd.int .i64) 3 wc w.heap.size (fun k_ => some k_ ≠ ((.slice Ao21 t107.length co21) : Value).ownBlock ∧ some k_ ≠ ((.slice Ao33 t119.length co33) : Value).ownBlock) (.slice Ao27 t114.length co27) t114) ∧ Aside0 (Kd.R (Kd.int .i64) 3 wc w.heap.size (fun k_ => some k_ ≠ ((.slice Ao21 t107.length co21) : Value).ownBlock ∧ some k_ ≠ ((.slice Ao27 t114.length co27) : Value).ownBlock) (.slice Ao33 t119.length co33) t119) ∧ Aside0 (wc.heap[gb101]? = some (.cells #[(.slice A0_0 l0_0.length c0_0), .int .i64 a0_1] 24 (0, 0))) ∧ Aside0 (wc.heap[gb113]? = some (.cells #[(.slice Ao21 t107.length co21), .int .i64 t110] 27 (0, 0))) ∧ Aside0 (wc.heap[gb118]? = some (.cells #[(.slice Ao27 t114.length co27), .int .i64 t117] 27 (0, 0))) ∧ Aside0 (wc.heap[gb125]? = some (.cells #[(.slice Ao33 t119.length co33), .int .i64 t122] 27 (0, 0))) ∧ Aside0 (Below w.heap.size w wc))
    case first =>
      have H := HC12.out
      clear HC12
      replace H := Option.bind_eq_some_iff.mp H
      obtain ⟨t126, A380, H⟩ := H
      replace H : (if t126 = true then (if t123 = t111 then (laws_FnExactRoundsOf.j0 k a1 t111 t112 t123 t124 (t124 != t112) l0_0 a0_1 t107 t110 t114 t117 t119 t122) else (laws_FnExactRoundsOf.j0 k a1 t111 t112 t123 t124 true l0_0 a0_1 t107 t110 t114 t117 t119 t122)) else (laws_FnExactRoundsOf.j0 k a1 t111 t112 t123 t124 true l0_0 a0_1 t107 t110 t114 t117 t119 t122)) = some r := H
      have A38 := Aside0.mk A380
      clear A380
      by_cases c39 : t126 = true
      · subst c39
        have H1 : (if t123 = t111 then (laws_FnExactRoundsOf.j0 k a1 t111 t112 t123 t124 (t124 != t112) l0_0 a0_1 t107 t110 t114 t117 t119 t122) else (laws_FnExactRoundsOf.j0 k a1 t111 t112 t123 t124 true l0_0 a0_1 t107 t110 t114 t117 t119 t122)) = some r := by rw [if_pos rfl] at H; exact H
        clear H
        have H := H1
        clear H1
        by_cases c40 : t123 = t111
        · rw [if_pos c40] at H
          have c40b0 : (t123 == t111) = true := beq_iff_eq.mpr c40
          have c40b1 : (t123 != t111) = false := bne_eq_false_iff_eq.mpr c40
          clear c40
          (first | rw [c40b0] | (simp only [i64_w, i32_w]; rw [c40b0]) | skip)
          have H' := Aside0.mk H
          clear H
          have hnb41 := NB125_101.out
          have hnc41 := NB101_125.out
          have hnb42 := NB125_113.out
          have hnc42 := NB113_125.out
          have hnb43 := NB125_118.out
          have hnc43 := NB118_125.out
          have hcz44_0 : w32.cell? ⟨gb125, 0, none⟩ = some (.slice none 0 0) := (blk_cell BK125.out 0).trans rfl
          have hcz44_1 : w32.cell? ⟨gb125, 1, none⟩ = some (.int .i64 0) := (blk_cell BK125.out 1).trans rfl
          have hfz44_0 := blk_frozen BK125.out 0
          have hfz44_1 := blk_frozen BK125.out 1
          have hnb45 := NB113_101.out
          have hnc45 := NB101_113.out
          have hnb46 := NB113_118.out
          have hnc46 := NB118_113.out
          have hcz47_0 : w32.cell? ⟨gb113, 0, none⟩ = some (.slice Ao21 t107.length co21) := (blk_cell BK113.out 0).trans rfl
          have hcz47_1 : w32.cell? ⟨gb113, 1, none⟩ = some (.int .i64 t110) := (blk_cell BK113.out 1).trans rfl
          have hfz47_0 := blk_frozen BK113.out 0
          have hfz47_1 := blk_frozen BK113.out 1
          go_wp2_with (first | ((with_reducible refine gate_callee (f := 15) rfl ?_); refine goesL_ (some 43) rfl rfl Try.func15 (by kernel_rfl) rfl #[.agg #[.slice Ao33 t119.length co33, .int .i64 t122], .agg #[.slice Ao21 t107.length co21, .int .i64 t110]] rfl (by (try simp only [List.map_toArray, List.map_cons, List.map_nil]); first | done | rfl | (simp only [List.length_drop, List.length_take]; rfl)) ?_; (with_reducible refine (laws_eqShares.calls k _ _ t119 t122 _ _ t107 t110 true _ ?side1 ?side2 ?side3 ?side4 A38.out).mono ?_); (case side1 => refine (Kd.R_reads' (e := 3) (base := w.heap.size) (ok := fun k_ => (((True ∧ some k_ ≠ (.slice Ao18 t103.length co18 : Value).ownBlock) ∧ some k_ ≠ (.slice Ao21 t107.length co21 : Value).ownBlock) ∧ some k_ ≠ (.slice Ao27 t114.length co27 : Value).ownBlock)) (n := t119.length) (c := co33) ?_).2.2; exact (by (with_reducible repeat (first | apply Kd.R_alloc | apply Kd.R_drewN | apply Kd.R_drew)); exact (Kd.R_mono (Kd.R_far (p := ⟨gb125, 1, none⟩) (Kd.R_far (p := ⟨gb125, 0, none⟩) (Kd.R_types HO121.out BK125.out (by decide)) (fun _ hk => hk.2) (.slice Ao33 t119.length co33)) (fun _ hk => hk.2) (.int .i64 t122)) (fun _ h_ => h_.1)))); (case side2 => exact (Kd.R_reads' HO121.out).2.1); (case side3 => refine (Kd.R_reads' (e := 3) (base := w.heap.size) (ok := fun k_ => (((True ∧ some k_ ≠ (.slice Ao18 t103.length co18 : Value).ownBlock) ∧ some k_ ≠ (.slice Ao27 t114.length co27 : Value).ownBlock) ∧ some k_ ≠ (.slice Ao33 t119.length co33 : Value).ownBlock)) (n := t107.length) (c := co21) ?_).2.2; exact (by (with_reducible repeat (first | apply Kd.R_alloc | apply Kd.R_drewN | apply Kd.R_drew)); exact (Kd.R_mono (Kd.R_far (p := ⟨gb125, 1, none⟩) (Kd.R_far (p := ⟨gb125, 0, none⟩) (Kd.R_types HO109.out BK125.out (by decide)) (fun _ hk => hk.2) (.slice Ao33 t119.length co33)) (fun _ hk => hk.2) (.int .i64 t122)) (fun _ h_ => h_.1)))); (case side4 => exact (Kd.R_reads' HO109.out).2.1); rintro e w48 ⟨rfl, hb⟩; refine ⟨_, rfl, ?_⟩; have n0_ := Aside0.mk (Kd.R_below (by (with_reducible repeat (first | apply Kd.R_alloc | apply Kd.R_drewN | apply Kd.R_drew)); exact (Kd.R_mono (Kd.R_far (p := ⟨gb125, 1, none⟩) (Kd.R_far (p := ⟨gb125, 0, none⟩) (Kd.R_types HO105.out BK125.out (by decide)) (fun _ hk => hk.2) (.slice Ao33 t119.length co33)) (fun _ hk => hk.2) (.int .i64 t122)) (fun _ h_ => h_.1))) hb); have n1_ := Aside0.mk (Kd.R_below (by (with_reducible repeat (first | apply Kd.R_alloc | apply Kd.R_drewN | apply Kd.R_drew)); exact (Kd.R_mono (Kd.R_far (p := ⟨gb125, 1, none⟩) (Kd.R_far (p := ⟨gb125, 0, none⟩) (Kd.R_types HO109.out BK125.out (by decide)) (fun _ hk => hk.2) (.slice Ao33 t119.length co33)) (fun _ hk => hk.2) (.int .i64 t122)) (fun _ h_ => h_.1))) hb); have n2_ := Aside0.mk (Kd.R_below (by (with_reducible repeat (first | apply Kd.R_alloc | apply Kd.R_drewN | apply Kd.R_drew)); exact (Kd.R_mono (Kd.R_far (p := ⟨gb125, 1, none⟩) (Kd.R_far (p := ⟨gb125, 0, none⟩) (Kd.R_types HO116.out BK125.out (by decide)) (fun _ hk => hk.2) (.slice Ao33 t119.length co33)) (fun _ hk => hk.2) (.int .i64 t122)) (fun _ h_ => h_.1))) hb); have n3_ := Aside0.mk (Kd.R_below (by (with_reducible repeat (first | apply Kd.R_alloc | apply Kd.R_drewN | apply Kd.R_drew)); exact (Kd.R_mono (Kd.R_far (p := ⟨gb125, 1, none⟩) (Kd.R_far (p := ⟨gb125, 0, none⟩) (Kd.R_types HO121.out BK125.out (by decide)) (fun _ hk => hk.2) (.slice Ao33 t119.length co33)) (fun _ hk => hk.2) (.int .i64 t122)) (fun _ h_ => h_.1))) hb); have n4_ := Aside0.mk (blk_below (g := gb101) (o := .cells #[.slice A0_0 l0_0.length c0_0, .int .i64 a0_1] 24 (0, 0)) (by (with_reducible repeat first | apply blk_drewN | apply blk_drew | apply blk_alloc); refine blk_far ?_ NB101_125.out _; (with_reducible repeat first | apply blk_drewN | apply blk_drew | apply blk_alloc); refine blk_far ?_ NB101_125.out _; (with_reducible repeat first | apply blk_drewN | apply blk_drew | apply blk_alloc); exact BK101.out) hb); have n5_ := Aside0.mk (blk_below (g := gb113) (o := .cells #[.slice Ao21 t107.length co21, .int .i64 t110] 27 (0, 0)) (by (with_reducible repeat first | apply blk_drewN | apply blk_drew | apply blk_alloc); refine blk_far ?_ NB113_125.out _; (with_reducible repeat first | apply blk_drewN | apply blk_drew | apply blk_alloc); refine blk_far ?_ NB113_125.out _; (with_reducible repeat first | apply blk_drewN | apply blk_drew | apply blk_alloc); exact BK113.out) hb); have n6_ := Aside0.mk (blk_below (g := gb118) (o := .cells #[.slice Ao27 t114.length co27, .int .i64 t117] 27 (0, 0)) (by (with_reducible repeat first | apply blk_drewN | apply blk_drew | apply blk_alloc); refine blk_far ?_ NB118_125.out _; (with_reducible repeat first | apply blk_drewN | apply blk_drew | apply blk_alloc); refine blk_far ?_ NB118_125.out _; (with_reducible repeat first | apply blk_drewN | apply blk_drew | apply blk_alloc); exact BK118.out) hb); have n7_ := Aside0.mk (blk_below (g := gb125) (o := .cells #[.slice Ao33 t119.length co33, .int .i64 t122] 27 (0, 0)) (by (with_reducible repeat first | apply blk_drewN | apply blk_drew | apply blk_alloc); refine blk_put (cs := #[.slice Ao33 t119.length co33, .int .i64 0]) ?_ 1 _ rfl; (with_reducible repeat first | apply blk_drewN | apply blk_drew | apply blk_alloc); refine blk_put (cs := #[.slice none 0 0, .int .i64 0]) ?_ 0 _ rfl; (with_reducible repeat first | apply blk_drewN | apply blk_drew | apply blk_alloc); exact BK125.out) hb); have n8_ := Aside0.mk (below_step (by repeat (first | (with_reducible first | exact HB.out | apply below_alloc | apply pw_below_drewN | apply below_drew1 | refine below_set ?_ GE101.out | refine below_set ?_ GE113.out | refine below_set ?_ GE118.out | refine below_set ?_ GE125.out) | exact HB.out)) hb); clear HO105; clear HO109; clear HO116; clear HO121; clear BK101; clear BK113; clear BK118; clear BK125; clear HB; have HO105 := n0_; have HO109 := n1_; have HO116 := n2_; have HO121 := n3_; have BK101 := n4_; have BK113 := n5_; have BK118 := n6_; have BK125 := n7_; have HB := n8_; clear n0_ n1_ n2_ n3_ n4_ n5_ n6_ n7_ n8_; (try clear hb); (try clear hb2); (try clear hk); (try clear hi)))
          go_meet
          case rel => exact ⟨_, ((t124 != t112)), (by first | rfl | (simp; done) | (simp [*]; done)), H', ⟨by first | omega | exact Nat.le_refl _⟩, ⟨by (with_reducible repeat (first | apply Kd.R_alloc | apply Kd.R_drewN | apply Kd.R_drew)); exact Kd.R_mono HO109.out (fun _ hk => ⟨hk.1.2, hk.2⟩)⟩, ⟨by (with_reducible repeat (first | apply Kd.R_alloc | apply Kd.R_drewN | apply Kd.R_drew)); exact Kd.R_mono HO116.out (fun _ hk => ⟨hk.1.2, hk.2⟩)⟩, ⟨by (with_reducible repeat (first | apply Kd.R_alloc | apply Kd.R_drewN | apply Kd.R_drew)); exact Kd.R_mono HO121.out (fun _ hk => ⟨hk.1.2, hk.2⟩)⟩, ⟨by (with_reducible repeat first | apply blk_drewN | apply blk_drew | apply blk_alloc); exact BK101.out⟩, ⟨by (with_reducible repeat first | apply blk_drewN | apply blk_drew | apply blk_alloc); exact BK113.out⟩, ⟨by (with_reducible repeat first | apply blk_drewN | apply blk_drew | apply blk_alloc); exact BK118.out⟩, ⟨by (with_reducible repeat first | apply blk_drewN | apply blk_drew | apply blk_alloc); exact BK125.out⟩, ⟨by repeat (first | (with_reducible first | exact HB.out | apply below_alloc | apply pw_below_drewN | apply below_drew1 | refine below_set ?_ GE101.out | refine below_set ?_ GE113.out | refine below_set ?_ GE118.out | refine below_set ?_ GE125.out) | exact HB.out)⟩⟩
        · rw [if_neg c40] at H
          have c40b0 : (t123 == t111) = false := beq_eq_false_iff_ne.mpr c40
          have c40b1 : (t123 != t111) = true := bne_iff_ne.mpr c40
          (first | rw [c40b0] | (simp only [i64_w, i32_w]; rw [c40b0]) | skip)
          have H' := Aside0.mk H
          clear H
          have hnb49 := NB125_101.out
          have hnc49 := NB101_125.out
          have hnb50 := NB125_113.out
          have hnc50 := NB113_125.out
          have hnb51 := NB125_118.out
          have hnc51 := NB118_125.out
          have hcz52_0 : w32.cell? ⟨gb125, 0, none⟩ = some (.slice none 0 0) := (blk_cell BK125.out 0).trans rfl
          have hcz52_1 : w32.cell? ⟨gb125, 1, none⟩ = some (.int .i64 0) := (blk_cell BK125.out 1).trans rfl
          have hfz52_0 := blk_frozen BK125.out 0
          have hfz52_1 := blk_frozen BK125.out 1
          have hnb53 := NB113_101.out
          have hnc53 := NB101_113.out
          have hnb54 := NB113_118.out
          have hnc54 := NB118_113.out
          have hcz55_0 : w32.cell? ⟨gb113, 0, none⟩ = some (.slice Ao21 t107.length co21) := (blk_cell BK113.out 0).trans rfl
          have hcz55_1 : w32.cell? ⟨gb113, 1, none⟩ = some (.int .i64 t110) := (blk_cell BK113.out 1).trans rfl
          have hfz55_0 := blk_frozen BK113.out 0
          have hfz55_1 := blk_frozen BK113.out 1
          go_wp2_with (first | ((with_reducible refine gate_callee (f := 15) rfl ?_); refine goesL_ (some 43) rfl rfl Try.func15 (by kernel_rfl) rfl #[.agg #[.slice Ao33 t119.length co33, .int .i64 t122], .agg #[.slice Ao21 t107.length co21, .int .i64 t110]] rfl (by (try simp only [List.map_toArray, List.map_cons, List.map_nil]); first | done | rfl | (simp only [List.length_drop, List.length_take]; rfl)) ?_; (with_reducible refine (laws_eqShares.calls k _ _ t119 t122 _ _ t107 t110 true _ ?side1 ?side2 ?side3 ?side4 A38.out).mono ?_); (case side1 => refine (Kd.R_reads' (e := 3) (base := w.heap.size) (ok := fun k_ => (((True ∧ some k_ ≠ (.slice Ao18 t103.length co18 : Value).ownBlock) ∧ some k_ ≠ (.slice Ao21 t107.length co21 : Value).ownBlock) ∧ some k_ ≠ (.slice Ao27 t114.length co27 : Value).ownBlock)) (n := t119.length) (c := co33) ?_).2.2; exact (by (with_reducible repeat (first | apply Kd.R_alloc | apply Kd.R_drewN | apply Kd.R_drew)); exact (Kd.R_mono (Kd.R_far (p := ⟨gb125, 1, none⟩) (Kd.R_far (p := ⟨gb125, 0, none⟩) (Kd.R_types HO121.out BK125.out (by decide)) (fun _ hk => hk.2) (.slice Ao33 t119.length co33)) (fun _ hk => hk.2) (.int .i64 t122)) (fun _ h_ => h_.1)))); (case side2 => exact (Kd.R_reads' HO121.out).2.1); (case side3 => refine (Kd.R_reads' (e := 3) (base := w.heap.size) (ok := fun k_ => (((True ∧ some k_ ≠ (.slice Ao18 t103.length co18 : Value).ownBlock) ∧ some k_ ≠ (.slice Ao27 t114.length co27 : Value).ownBlock) ∧ some k_ ≠ (.slice Ao33 t119.length co33 : Value).ownBlock)) (n := t107.length) (c := co21) ?_).2.2; exact (by (with_reducible repeat (first | apply Kd.R_alloc | apply Kd.R_drewN | apply Kd.R_drew)); exact (Kd.R_mono (Kd.R_far (p := ⟨gb125, 1, none⟩) (Kd.R_far (p := ⟨gb125, 0, none⟩) (Kd.R_types HO109.out BK125.out (by decide)) (fun _ hk => hk.2) (.slice Ao33 t119.length co33)) (fun _ hk => hk.2) (.int .i64 t122)) (fun _ h_ => h_.1)))); (case side4 => exact (Kd.R_reads' HO109.out).2.1); rintro e w56 ⟨rfl, hb⟩; refine ⟨_, rfl, ?_⟩; have n0_ := Aside0.mk (Kd.R_below (by (with_reducible repeat (first | apply Kd.R_alloc | apply Kd.R_drewN | apply Kd.R_drew)); exact (Kd.R_mono (Kd.R_far (p := ⟨gb125, 1, none⟩) (Kd.R_far (p := ⟨gb125, 0, none⟩) (Kd.R_types HO105.out BK125.out (by decide)) (fun _ hk => hk.2) (.slice Ao33 t119.length co33)) (fun _ hk => hk.2) (.int .i64 t122)) (fun _ h_ => h_.1))) hb); have n1_ := Aside0.mk (Kd.R_below (by (with_reducible repeat (first | apply Kd.R_alloc | apply Kd.R_drewN | apply Kd.R_drew)); exact (Kd.R_mono (Kd.R_far (p := ⟨gb125, 1, none⟩) (Kd.R_far (p := ⟨gb125, 0, none⟩) (Kd.R_types HO109.out BK125.out (by decide)) (fun _ hk => hk.2) (.slice Ao33 t119.length co33)) (fun _ hk => hk.2) (.int .i64 t122)) (fun _ h_ => h_.1))) hb); have n2_ := Aside0.mk (Kd.R_below (by (with_reducible repeat (first | apply Kd.R_alloc | apply Kd.R_drewN | apply Kd.R_drew)); exact (Kd.R_mono (Kd.R_far (p := ⟨gb125, 1, none⟩) (Kd.R_far (p := ⟨gb125, 0, none⟩) (Kd.R_types HO116.out BK125.out (by decide)) (fun _ hk => hk.2) (.slice Ao33 t119.length co33)) (fun _ hk => hk.2) (.int .i64 t122)) (fun _ h_ => h_.1))) hb); have n3_ := Aside0.mk (Kd.R_below (by (with_reducible repeat (first | apply Kd.R_alloc | apply Kd.R_drewN | apply Kd.R_drew)); exact (Kd.R_mono (Kd.R_far (p := ⟨gb125, 1, none⟩) (Kd.R_far (p := ⟨gb125, 0, none⟩) (Kd.R_types HO121.out BK125.out (by decide)) (fun _ hk => hk.2) (.slice Ao33 t119.length co33)) (fun _ hk => hk.2) (.int .i64 t122)) (fun _ h_ => h_.1))) hb); have n4_ := Aside0.mk (blk_below (g := gb101) (o := .cells #[.slice A0_0 l0_0.length c0_0, .int .i64 a0_1] 24 (0, 0)) (by (with_reducible repeat first | apply blk_drewN | apply blk_drew | apply blk_alloc); refine blk_far ?_ NB101_125.out _; (with_reducible repeat first | apply blk_drewN | apply blk_drew | apply blk_alloc); refine blk_far ?_ NB101_125.out _; (with_reducible repeat first | apply blk_drewN | apply blk_drew | apply blk_alloc); exact BK101.out) hb); have n5_ := Aside0.mk (blk_below (g := gb113) (o := .cells #[.slice Ao21 t107.length co21, .int .i64 t110] 27 (0, 0)) (by (with_reducible repeat first | apply blk_drewN | apply blk_drew | apply blk_alloc); refine blk_far ?_ NB113_125.out _; (with_reducible repeat first | apply blk_drewN | apply blk_drew | apply blk_alloc); refine blk_far ?_ NB113_125.out _; (with_reducible repeat first | apply blk_drewN | apply blk_drew | apply blk_alloc); exact BK113.out) hb); have n6_ := Aside0.mk (blk_below (g := gb118) (o := .cells #[.slice Ao27 t114.length co27, .int .i64 t117] 27 (0, 0)) (by (with_reducible repeat first | apply blk_drewN | apply blk_drew | apply blk_alloc); refine blk_far ?_ NB118_125.out _; (with_reducible repeat first | apply blk_drewN | apply blk_drew | apply blk_alloc); refine blk_far ?_ NB118_125.out _; (with_reducible repeat first | apply blk_drewN | apply blk_drew | apply blk_alloc); exact BK118.out) hb); have n7_ := Aside0.mk (blk_below (g := gb125) (o := .cells #[.slice Ao33 t119.length co33, .int .i64 t122] 27 (0, 0)) (by (with_reducible repeat first | apply blk_drewN | apply blk_drew | apply blk_alloc); refine blk_put (cs := #[.slice Ao33 t119.length co33, .int .i64 0]) ?_ 1 _ rfl; (with_reducible repeat first | apply blk_drewN | apply blk_drew | apply blk_alloc); refine blk_put (cs := #[.slice none 0 0, .int .i64 0]) ?_ 0 _ rfl; (with_reducible repeat first | apply blk_drewN | apply blk_drew | apply blk_alloc); exact BK125.out) hb); have n8_ := Aside0.mk (below_step (by repeat (first | (with_reducible first | exact HB.out | apply below_alloc | apply pw_below_drewN | apply below_drew1 | refine below_set ?_ GE101.out | refine below_set ?_ GE113.out | refine below_set ?_ GE118.out | refine below_set ?_ GE125.out) | exact HB.out)) hb); clear HO105; clear HO109; clear HO116; clear HO121; clear BK101; clear BK113; clear BK118; clear BK125; clear HB; have HO105 := n0_; have HO109 := n1_; have HO116 := n2_; have HO121 := n3_; have BK101 := n4_; have BK113 := n5_; have BK118 := n6_; have BK125 := n7_; have HB := n8_; clear n0_ n1_ n2_ n3_ n4_ n5_ n6_ n7_ n8_; (try clear hb); (try clear hb2); (try clear hk); (try clear hi)))
          go_meet
          case rel => exact ⟨_, (true), (by first | rfl | (simp; done) | (simp [*]; done)), H', ⟨by first | omega | exact Nat.le_refl _⟩, ⟨by (with_reducible repeat (first | apply Kd.R_alloc | apply Kd.R_drewN | apply Kd.R_drew)); exact Kd.R_mono HO109.out (fun _ hk => ⟨hk.1.2, hk.2⟩)⟩, ⟨by (with_reducible repeat (first | apply Kd.R_alloc | apply Kd.R_drewN | apply Kd.R_drew)); exact Kd.R_mono HO116.out (fun _ hk => ⟨hk.1.2, hk.2⟩)⟩, ⟨by (with_reducible repeat (first | apply Kd.R_alloc | apply Kd.R_drewN | apply Kd.R_drew)); exact Kd.R_mono HO121.out (fun _ hk => ⟨hk.1.2, hk.2⟩)⟩, ⟨by (with_reducible repeat first | apply blk_drewN | apply blk_drew | apply blk_alloc); exact BK101.out⟩, ⟨by (with_reducible repeat first | apply blk_drewN | apply blk_drew | apply blk_alloc); exact BK113.out⟩, ⟨by (with_reducible repeat first | apply blk_drewN | apply blk_drew | apply blk_alloc); exact BK118.out⟩, ⟨by (with_reducible repeat first | apply blk_drewN | apply blk_drew | apply blk_alloc); exact BK125.out⟩, ⟨by repeat (first | (with_reducible first | exact HB.out | apply below_alloc | apply pw_below_drewN | apply below_drew1 | refine below_set ?_ GE101.out | refine below_set ?_ GE113.out | refine below_set ?_ GE118.out | refine below_set ?_ GE125.out) | exact HB.out)⟩⟩
      · replace c39 := Bool.eq_false_iff.mpr c39
        subst c39
        have H1 : (laws_FnExactRoundsOf.j0 k a1 t111 t112 t123 t124 true l0_0 a0_1 t107 t110 t114 t117 t119 t122) = some r := by rw [if_neg (show ¬ (false = true) by decide)] at H; exact H
        clear H
        have H := H1
        clear H1
        have H' := Aside0.mk H
        clear H
        have hnb57 := NB125_101.out
        have hnc57 := NB101_125.out
        have hnb58 := NB125_113.out
        have hnc58 := NB113_125.out
        have hnb59 := NB125_118.out
        have hnc59 := NB118_125.out
        have hcz60_0 : w32.cell? ⟨gb125, 0, none⟩ = some (.slice none 0 0) := (blk_cell BK125.out 0).trans rfl
        have hcz60_1 : w32.cell? ⟨gb125, 1, none⟩ = some (.int .i64 0) := (blk_cell BK125.out 1).trans rfl
        have hfz60_0 := blk_frozen BK125.out 0
        have hfz60_1 := blk_frozen BK125.out 1
        have hnb61 := NB113_101.out
        have hnc61 := NB101_113.out
        have hnb62 := NB113_118.out
        have hnc62 := NB118_113.out
        have hcz63_0 : w32.cell? ⟨gb113, 0, none⟩ = some (.slice Ao21 t107.length co21) := (blk_cell BK113.out 0).trans rfl
        have hcz63_1 : w32.cell? ⟨gb113, 1, none⟩ = some (.int .i64 t110) := (blk_cell BK113.out 1).trans rfl
        have hfz63_0 := blk_frozen BK113.out 0
        have hfz63_1 := blk_frozen BK113.out 1
        go_wp2_with (first | ((with_reducible refine gate_callee (f := 15) rfl ?_); refine goesL_ (some 43) rfl rfl Try.func15 (by kernel_rfl) rfl #[.agg #[.slice Ao33 t119.length co33, .int .i64 t122], .agg #[.slice Ao21 t107.length co21, .int .i64 t110]] rfl (by (try simp only [List.map_toArray, List.map_cons, List.map_nil]); first | done | rfl | (simp only [List.length_drop, List.length_take]; rfl)) ?_; (with_reducible refine (laws_eqShares.calls k _ _ t119 t122 _ _ t107 t110 false _ ?side1 ?side2 ?side3 ?side4 A38.out).mono ?_); (case side1 => refine (Kd.R_reads' (e := 3) (base := w.heap.size) (ok := fun k_ => (((True ∧ some k_ ≠ (.slice Ao18 t103.length co18 : Value).ownBlock) ∧ some k_ ≠ (.slice Ao21 t107.length co21 : Value).ownBlock) ∧ some k_ ≠ (.slice Ao27 t114.length co27 : Value).ownBlock)) (n := t119.length) (c := co33) ?_).2.2; exact (by (with_reducible repeat (first | apply Kd.R_alloc | apply Kd.R_drewN | apply Kd.R_drew)); exact (Kd.R_mono (Kd.R_far (p := ⟨gb125, 1, none⟩) (Kd.R_far (p := ⟨gb125, 0, none⟩) (Kd.R_types HO121.out BK125.out (by decide)) (fun _ hk => hk.2) (.slice Ao33 t119.length co33)) (fun _ hk => hk.2) (.int .i64 t122)) (fun _ h_ => h_.1)))); (case side2 => exact (Kd.R_reads' HO121.out).2.1); (case side3 => refine (Kd.R_reads' (e := 3) (base := w.heap.size) (ok := fun k_ => (((True ∧ some k_ ≠ (.slice Ao18 t103.length co18 : Value).ownBlock) ∧ some k_ ≠ (.slice Ao27 t114.length co27 : Value).ownBlock) ∧ some k_ ≠ (.slice Ao33 t119.length co33 : Value).ownBlock)) (n := t107.length) (c := co21) ?_).2.2; exact (by (with_reducible repeat (first | apply Kd.R_alloc | apply Kd.R_drewN | apply Kd.R_drew)); exact (Kd.R_mono (Kd.R_far (p := ⟨gb125, 1, none⟩) (Kd.R_far (p := ⟨gb125, 0, none⟩) (Kd.R_types HO109.out BK125.out (by decide)) (fun _ hk => hk.2) (.slice Ao33 t119.length co33)) (fun _ hk => hk.2) (.int .i64 t122)) (fun _ h_ => h_.1)))); (case side4 => exact (Kd.R_reads' HO109.out).2.1); rintro e w64 ⟨rfl, hb⟩; refine ⟨_, rfl, ?_⟩; have n0_ := Aside0.mk (Kd.R_below (by (with_reducible repeat (first | apply Kd.R_alloc | apply Kd.R_drewN | apply Kd.R_drew)); exact (Kd.R_mono (Kd.R_far (p := ⟨gb125, 1, none⟩) (Kd.R_far (p := ⟨gb125, 0, none⟩) (Kd.R_types HO105.out BK125.out (by decide)) (fun _ hk => hk.2) (.slice Ao33 t119.length co33)) (fun _ hk => hk.2) (.int .i64 t122)) (fun _ h_ => h_.1))) hb); have n1_ := Aside0.mk (Kd.R_below (by (with_reducible repeat (first | apply Kd.R_alloc | apply Kd.R_drewN | apply Kd.R_drew)); exact (Kd.R_mono (Kd.R_far (p := ⟨gb125, 1, none⟩) (Kd.R_far (p := ⟨gb125, 0, none⟩) (Kd.R_types HO109.out BK125.out (by decide)) (fun _ hk => hk.2) (.slice Ao33 t119.length co33)) (fun _ hk => hk.2) (.int .i64 t122)) (fun _ h_ => h_.1))) hb); have n2_ := Aside0.mk (Kd.R_below (by (with_reducible repeat (first | apply Kd.R_alloc | apply Kd.R_drewN | apply Kd.R_drew)); exact (Kd.R_mono (Kd.R_far (p := ⟨gb125, 1, none⟩) (Kd.R_far (p := ⟨gb125, 0, none⟩) (Kd.R_types HO116.out BK125.out (by decide)) (fun _ hk => hk.2) (.slice Ao33 t119.length co33)) (fun _ hk => hk.2) (.int .i64 t122)) (fun _ h_ => h_.1))) hb); have n3_ := Aside0.mk (Kd.R_below (by (with_reducible repeat (first | apply Kd.R_alloc | apply Kd.R_drewN | apply Kd.R_drew)); exact (Kd.R_mono (Kd.R_far (p := ⟨gb125, 1, none⟩) (Kd.R_far (p := ⟨gb125, 0, none⟩) (Kd.R_types HO121.out BK125.out (by decide)) (fun _ hk => hk.2) (.slice Ao33 t119.length co33)) (fun _ hk => hk.2) (.int .i64 t122)) (fun _ h_ => h_.1))) hb); have n4_ := Aside0.mk (blk_below (g := gb101) (o := .cells #[.slice A0_0 l0_0.length c0_0, .int .i64 a0_1] 24 (0, 0)) (by (with_reducible repeat first | apply blk_drewN | apply blk_drew | apply blk_alloc); refine blk_far ?_ NB101_125.out _; (with_reducible repeat first | apply blk_drewN | apply blk_drew | apply blk_alloc); refine blk_far ?_ NB101_125.out _; (with_reducible repeat first | apply blk_drewN | apply blk_drew | apply blk_alloc); exact BK101.out) hb); have n5_ := Aside0.mk (blk_below (g := gb113) (o := .cells #[.slice Ao21 t107.length co21, .int .i64 t110] 27 (0, 0)) (by (with_reducible repeat first | apply blk_drewN | apply blk_drew | apply blk_alloc); refine blk_far ?_ NB113_125.out _; (with_reducible repeat first | apply blk_drewN | apply blk_drew | apply blk_alloc); refine blk_far ?_ NB113_125.out _; (with_reducible repeat first | apply blk_drewN | apply blk_drew | apply blk_alloc); exact BK113.out) hb); have n6_ := Aside0.mk (blk_below (g := gb118) (o := .cells #[.slice Ao27 t114.length co27, .int .i64 t117] 27 (0, 0)) (by (with_reducible repeat first | apply blk_drewN | apply blk_drew | apply blk_alloc); refine blk_far ?_ NB118_125.out _; (with_reducible repeat first | apply blk_drewN | apply blk_drew | apply blk_alloc); refine blk_far ?_ NB118_125.out _; (with_reducible repeat first | apply blk_drewN | apply blk_drew | apply blk_alloc); exact BK118.out) hb); have n7_ := Aside0.mk (blk_below (g := gb125) (o := .cells #[.slice Ao33 t119.length co33, .int .i64 t122] 27 (0, 0)) (by (with_reducible repeat first | apply blk_drewN | apply blk_drew | apply blk_alloc); refine blk_put (cs := #[.slice Ao33 t119.length co33, .int .i64 0]) ?_ 1 _ rfl; (with_reducible repeat first | apply blk_drewN | apply blk_drew | apply blk_alloc); refine blk_put (cs := #[.slice none 0 0, .int .i64 0]) ?_ 0 _ rfl; (with_reducible repeat first | apply blk_drewN | apply blk_drew | apply blk_alloc); exact BK125.out) hb); have n8_ := Aside0.mk (below_step (by repeat (first | (with_reducible first | exact HB.out | apply below_alloc | apply pw_below_drewN | apply below_drew1 | refine below_set ?_ GE101.out | refine below_set ?_ GE113.out | refine below_set ?_ GE118.out | refine below_set ?_ GE125.out) | exact HB.out)) hb); clear HO105; clear HO109; clear HO116; clear HO121; clear BK101; clear BK113; clear BK118; clear BK125; clear HB; have HO105 := n0_; have HO109 := n1_; have HO116 := n2_; have HO121 := n3_; have BK101 := n4_; have BK113 := n5_; have BK118 := n6_; have BK125 := n7_; have HB := n8_; clear n0_ n1_ n2_ n3_ n4_ n5_ n6_ n7_ n8_; (try clear hb); (try clear hb2); (try clear hk); (try clear hi)))
        go_meet
        case rel => exact ⟨_, (true), (by first | rfl | (simp; done) | (simp [*]; done)), H', ⟨by first | omega | exact Nat.le_refl _⟩, ⟨by (with_reducible repeat (first | apply Kd.R_alloc | apply Kd.R_drewN | apply Kd.R_drew)); exact Kd.R_mono HO109.out (fun _ hk => ⟨hk.1.2, hk.2⟩)⟩, ⟨by (with_reducible repeat (first | apply Kd.R_alloc | apply Kd.R_drewN | apply Kd.R_drew)); exact Kd.R_mono HO116.out (fun _ hk => ⟨hk.1.2, hk.2⟩)⟩, ⟨by (with_reducible repeat (first | apply Kd.R_alloc | apply Kd.R_drewN | apply Kd.R_drew)); exact Kd.R_mono HO121.out (fun _ hk => ⟨hk.1.2, hk.2⟩)⟩, ⟨by (with_reducible repeat first | apply blk_drewN | apply blk_drew | apply blk_alloc); exact BK101.out⟩, ⟨by (with_reducible repeat first | apply blk_drewN | apply blk_drew | apply blk_alloc); exact BK113.out⟩, ⟨by (with_reducible repeat first | apply blk_drewN | apply blk_drew | apply blk_alloc); exact BK118.out⟩, ⟨by (with_reducible repeat first | apply blk_drewN | apply blk_drew | apply blk_alloc); exact BK125.out⟩, ⟨by repeat (first | (with_reducible first | exact HB.out | apply below_alloc | apply pw_below_drewN | apply below_drew1 | refine below_set ?_ GE101.out | refine below_set ?_ GE113.out | refine below_set ?_ GE118.out | refine below_set ?_ GE125.out) | exact HB.out)⟩⟩
    case rest =>
      clear HC12
      try clear c1
      try clear c2
      try clear p2
      try clear c3
      try clear c4
      try clear c4b0
      try clear c5
      try clear c6
      try clear c10
      try clear c11
      try clear c13
      try clear c15
      try clear c22
      try clear c28
      try clear c29
      try clear c30
      try clear c31
      try clear c34
      try clear c35
      try clear c36
      try clear c39
      try clear c40
      try clear c40b0
      try clear c40b1
      try clear c41
      try clear c42
      try clear c43
      try clear c45
      try clear c46
      try clear c49
      try clear c50
      try clear c51
      try clear c53
      try clear c54
      try clear c57
      try clear c58
      try clear c59
      try clear c61
      try clear c62
      try clear hcz14_0
      try clear hcz14_1
      try clear hcz16_0
      try clear hcz16_1
      try clear hcz23_0
      try clear hcz23_1
      try clear hcz24_0
      try clear hcz24_1
      try clear hcz30_0
      try clear hcz30_1
      try clear hcz37_0
      try clear hcz37_1
      try clear hcz44_0
      try clear hcz44_1
      try clear hcz47_0
      try clear hcz47_1
      try clear hcz52_0
      try clear hcz52_1
      try clear hcz55_0
      try clear hcz55_1
      try clear hcz60_0
      try clear hcz60_1
      try clear hcz63_0
      try clear hcz63_1
      try clear hcz6_0
      try clear hcz6_1
      try clear hfz14_0
      try clear hfz14_1
      try clear hfz16_0
      try clear hfz16_1
      try clear hfz23_0
      try clear hfz23_1
      try clear hfz24_0
      try clear hfz24_1
      try clear hfz30_0
      try clear hfz30_1
      try clear hfz37_0
      try clear hfz37_1
      try clear hfz44_0
      try clear hfz44_1
      try clear hfz47_0
      try clear hfz47_1
      try clear hfz52_0
      try clear hfz52_1
      try clear hfz55_0
      try clear hfz55_1
      try clear hfz60_0
      try clear hfz60_1
      try clear hfz63_0
      try clear hfz63_1
      try clear hfz6_0
      try clear hfz6_1
      obtain ⟨kq, x54_11, rfl, HA, HJ11, HO_114000, HO_119000, HO_126000, BK101, BK113, BK118, BK125, HB⟩ := hcut
      cases kq with
      | zero => exact absurd HA.out (by simp [laws_FnExactRoundsOf.j0])
      | succ kj11 =>
        have H := HA.out
        clear HA
        simp only [laws_FnExactRoundsOf.j0] at H
        by_cases c65 : x54_11 = true
        · subst c65
          have H1 : (some false) = some r := by rw [if_pos rfl] at H; exact H
          clear H
          have H := H1
          clear H1
          obtain rfl := Option.some.inj H
          go_wp2
          go_ret
          exact ⟨by first | rfl | (simp [errW_none, errW_some] <;> rfl) | (simp [*, errW_none, errW_some] <;> rfl), by repeat (first | (with_reducible first | exact HB.out | apply below_alloc | apply pw_below_drewN | apply below_drew1 | refine below_set ?_ GE101.out | refine below_set ?_ GE113.out | refine below_set ?_ GE118.out | refine below_set ?_ GE125.out) | exact HB.out)⟩
        · replace c65 := Bool.eq_false_iff.mpr c65
          subst c65
          have H1 : ((laws_toShares.f kj11 l0_0 a0_1).bind fun bt127 => ((laws_eqShares.f kj11 t114 t117 bt127.1 bt127.2).bind fun t131 => (if t131 = true then ((laws_markShares.f kj11 t114 t117 1).bind fun bt132 => (if bt132.1 < 0 then (laws_FnExactRoundsOf.j1 kj11 a1 t111 t112 true l0_0 a0_1 t107 t110 t119 t122) else ((laws_eqShares.f kj11 t119 t122 t107 t110).bind fun t134 => (if t134 = true then (if t123 = t111 then (laws_FnExactRoundsOf.j1 kj11 a1 t111 t112 (t124 != t112) l0_0 a0_1 t107 t110 t119 t122) else (laws_FnExactRoundsOf.j1 kj11 a1 t111 t112 true l0_0 a0_1 t107 t110 t119 t122)) else (laws_FnExactRoundsOf.j1 kj11 a1 t111 t112 true l0_0 a0_1 t107 t110 t119 t122))))) else (some false)))) = some r := by rw [if_neg (show ¬ (false = true) by decide)] at H; exact H
          clear H
          have H := H1
          clear H1
          replace H := Option.bind_eq_some_iff.mp H
          obtain ⟨⟨t127, t130⟩, A660, H⟩ := H
          replace H : ((laws_eqShares.f kj11 t114 t117 t127 t130).bind fun t131 => (if t131 = true then ((laws_markShares.f kj11 t114 t117 1).bind fun bt132 => (if bt132.1 < 0 then (laws_FnExactRoundsOf.j1 kj11 a1 t111 t112 true l0_0 a0_1 t107 t110 t119 t122) else ((laws_eqShares.f kj11 t119 t122 t107 t110).bind fun t134 => (if t134 = true then (if t123 = t111 then (laws_FnExactRoundsOf.j1 kj11 a1 t111 t112 (t124 != t112) l0_0 a0_1 t107 t110 t119 t122) else (laws_FnExactRoundsOf.j1 kj11 a1 t111 t112 true l0_0 a0_1 t107 t110 t119 t122)) else (laws_FnExactRoundsOf.j1 kj11 a1 t111 t112 true l0_0 a0_1 t107 t110 t119 t122))))) else (some false))) = some r := H
          have A66 := Aside0.mk A660
          clear A660
          replace H := Option.bind_eq_some_iff.mp H
          obtain ⟨t131, A670, H⟩ := H
          replace H : (if t131 = true then ((laws_markShares.f kj11 t114 t117 1).bind fun bt132 => (if bt132.1 < 0 then (laws_FnExactRoundsOf.j1 kj11 a1 t111 t112 true l0_0 a0_1 t107 t110 t119 t122) else ((laws_eqShares.f kj11 t119 t122 t107 t110).bind fun t134 => (if t134 = true then (if t123 = t111 then (laws_FnExactRoundsOf.j1 kj11 a1 t111 t112 (t124 != t112) l0_0 a0_1 t107 t110 t119 t122) else (laws_FnExactRoundsOf.j1 kj11 a1 t111 t112 true l0_0 a0_1 t107 t110 t119 t122)) else (laws_FnExactRoundsOf.j1 kj11 a1 t111 t112 true l0_0 a0_1 t107 t110 t119 t122))))) else (some false)) = some r := H
          have A67 := Aside0.mk A670
          clear A670
          by_cases c68 : t131 = true
          · subst c68
            have H1 : ((laws_markShares.f kj11 t114 t117 1).bind fun bt132 => (if bt132.1 < 0 then (laws_FnExactRoundsOf.j1 kj11 a1 t111 t112 true l0_0 a0_1 t107 t110 t119 t122) else ((laws_eqShares.f kj11 t119 t122 t107 t110).bind fun t134 => (if t134 = true then (if t123 = t111 then (laws_FnExactRoundsOf.j1 kj11 a1 t111 t112 (t124 != t112) l0_0 a0_1 t107 t110 t119 t122) else (laws_FnExactRoundsOf.j1 kj11 a1 t111 t112 true l0_0 a0_1 t107 t110 t119 t122)) else (laws_FnExactRoundsOf.j1 kj11 a1 t111 t112 true l0_0 a0_1 t107 t110 t119 t122))))) = some r := by rw [if_pos rfl] at H; exact H
            clear H
            have H := H1
            clear H1
            replace H := Option.bind_eq_some_iff.mp H
            obtain ⟨⟨t132, t133⟩, A690, H⟩ := H
            replace H : (if t132 < 0 then (laws_FnExactRoundsOf.j1 kj11 a1 t111 t112 true l0_0 a0_1 t107 t110 t119 t122) else ((laws_eqShares.f kj11 t119 t122 t107 t110).bind fun t134 => (if t134 = true then (if t123 = t111 then (laws_FnExactRoundsOf.j1 kj11 a1 t111 t112 (t124 != t112) l0_0 a0_1 t107 t110 t119 t122) else (laws_FnExactRoundsOf.j1 kj11 a1 t111 t112 true l0_0 a0_1 t107 t110 t119 t122)) else (laws_FnExactRoundsOf.j1 kj11 a1 t111 t112 true l0_0 a0_1 t107 t110 t119 t122)))) = some r := H
            have A69 := Aside0.mk A690
            clear A690
            have HC70 := Aside0.mk H
            clear H
            try go_wp2
            have n0_ := Aside0.mk (Kd.R_drew HO_114000.out)
            have n1_ := Aside0.mk (Kd.R_drew HO_119000.out)
            have n2_ := Aside0.mk (Kd.R_drew HO_126000.out)
            have n3_ := Aside0.mk (blk_drew BK101.out)
            have n4_ := Aside0.mk (blk_drew BK113.out)
            have n5_ := Aside0.mk (blk_drew BK118.out)
            have n6_ := Aside0.mk (blk_drew BK125.out)
            have n7_ := Aside0.mk (below_drew1 HB.out)
            clear HO_114000
            clear HO_119000
            clear HO_126000
            clear BK101
            clear BK113
            clear BK118
            clear BK125
            clear HB
            have HO_114000 := n0_
            have HO_119000 := n1_
            have HO_126000 := n2_
            have BK101 := n3_
            have BK113 := n4_
            have BK118 := n5_
            have BK125 := n6_
            have HB := n7_
            clear n0_ n1_ n2_ n3_ n4_ n5_ n6_ n7_
            refine start_ (n := 5) (S := fun w' => w'.cell? ⟨gb118, 0, none⟩ = some (.slice Ao27 t114.length co27) ∧ w'.cell? ⟨gb118, 1, none⟩ = some (.int .i64 t117) ∧ w'.cell? ⟨gb101, 0, none⟩ = some (.slice A0_0 l0_0.length c0_0) ∧ w'.cell? ⟨gb101, 1, none⟩ = some (.int .i64 a0_1)) (ds := []) #[false, false, false, false, false] (by kernel_rfl) rfl rfl ⟨(blk_cell BK118.out 0).trans rfl, (blk_cell BK118.out 1).trans rfl, (blk_cell BK101.out 0).trans rfl, (blk_cell BK101.out 1).trans rfl⟩ (fun hHeld => ?_)
            generalize wc.drew = w71 at HO_114000 HO_119000 HO_126000 BK101 BK113 BK118 BK125 HB hHeld ⊢
            refine take_ (i := 0) (N := some 55) (v := ?_) (a' := ?_) #[true, false, false, false, false] rfl rfl (by kernel_rfl) (fun _ _ _ h => h) (Or.inl ⟨by rfl, ?_⟩) hHeld ?_ ?_
            rotate_left
            · rintro w' ⟨s0, s1, s2, s3⟩
              go_simp
              with_reducible rfl
            rotate_left
            · simp only [Act.put, List.setIfInBounds_toArray, List.set_cons_zero, List.set_cons_succ, i64_w, i32_w]
              rfl
            refine take_ (i := 1) (N := some 56) (v := ?_) (a' := ?_) #[true, true, false, false, false] rfl rfl (by kernel_rfl) (fun _ _ _ h => h) (Or.inl ⟨by rfl, ?_⟩) hHeld ?_ ?_
            rotate_left
            · rintro w' ⟨s0, s1, s2, s3⟩
              go_simp
              with_reducible rfl
            rotate_left
            · simp only [Act.put, List.setIfInBounds_toArray, List.set_cons_zero, List.set_cons_succ, i64_w, i32_w]
              rfl
            refine one_ (i := 2) (N := some 57) #[true, true, true, false, false] rfl rfl (by kernel_rfl) (by decide) (fun K hK => ?_)
            refine goes_ Try.func13 (by kernel_rfl) rfl #[.agg #[.slice A0_0 l0_0.length c0_0, .int .i64 a0_1]] (by rfl) rfl rfl (by (try simp only [List.map_toArray, List.map_cons, List.map_nil]); first | done | rfl | (simp only [List.length_drop, List.length_take]; rfl)) ?_
            with_reducible refine (laws_toShares.calls kj11 _ _ l0_0 a0_1 t127 t130 _ ?side1 ?side2 A66.out).mono ?_
            (case side1 => repeat (first | exact (Kd.C_below HR0_0.out HB.out) | (with_reducible refine Kd.C_alloc ?_ _) | (with_reducible refine Kd.C_drewN ?_ _) | (with_reducible refine Kd.C_drew ?_)))
            (case side2 => exact HC0_0.out)
            rintro e w72 ⟨v128, rfl, ho0, hb⟩
            refine ⟨_, rfl, ?_⟩
            have n0_ := Aside0.mk (Kd.R_elder' (by (with_reducible repeat (first | apply Kd.R_alloc | apply Kd.R_drewN | apply Kd.R_drew)); exact HO_114000.out) (Kd.R_base ho0) hb)
            have n1_ := Aside0.mk (Kd.R_elder' (by (with_reducible repeat (first | apply Kd.R_alloc | apply Kd.R_drewN | apply Kd.R_drew)); exact HO_119000.out) (Kd.R_base ho0) hb)
            have n2_ := Aside0.mk (Kd.R_elder' (by (with_reducible repeat (first | apply Kd.R_alloc | apply Kd.R_drewN | apply Kd.R_drew)); exact HO_126000.out) (Kd.R_base ho0) hb)
            have n3_ := Aside0.mk (Kd.R_lower (Kd.R_new' (Kd.R_new' (Kd.R_new' ho0 (Kd.R_lt (by (with_reducible repeat (first | apply Kd.R_alloc | apply Kd.R_drewN | apply Kd.R_drew)); exact HO_114000.out))) (Kd.R_lt (by (with_reducible repeat (first | apply Kd.R_alloc | apply Kd.R_drewN | apply Kd.R_drew)); exact HO_119000.out))) (Kd.R_lt (by (with_reducible repeat (first | apply Kd.R_alloc | apply Kd.R_drewN | apply Kd.R_drew)); exact HO_126000.out))) (below_size (by repeat (first | (with_reducible first | exact HB.out | apply below_alloc | apply pw_below_drewN | apply below_drew1 | refine below_set ?_ GE101.out | refine below_set ?_ GE113.out | refine below_set ?_ GE118.out | refine below_set ?_ GE125.out) | exact HB.out))))
            have n4_ := Aside0.mk (blk_below (g := gb101) (o := .cells #[.slice A0_0 l0_0.length c0_0, .int .i64 a0_1] 24 (0, 0)) (by (with_reducible repeat first | apply blk_drewN | apply blk_drew | apply blk_alloc); exact BK101.out) hb)
            have n5_ := Aside0.mk (blk_below (g := gb113) (o := .cells #[.slice Ao21 t107.length co21, .int .i64 t110] 27 (0, 0)) (by (with_reducible repeat first | apply blk_drewN | apply blk_drew | apply blk_alloc); exact BK113.out) hb)
            have n6_ := Aside0.mk (blk_below (g := gb118) (o := .cells #[.slice Ao27 t114.length co27, .int .i64 t117] 27 (0, 0)) (by (with_reducible repeat first | apply blk_drewN | apply blk_drew | apply blk_alloc); exact BK118.out) hb)
            have n7_ := Aside0.mk (blk_below (g := gb125) (o := .cells #[.slice Ao33 t119.length co33, .int .i64 t122] 27 (0, 0)) (by (with_reducible repeat first | apply blk_drewN | apply blk_drew | apply blk_alloc); exact BK125.out) hb)
            have n8_ := Aside0.mk (below_step (by repeat (first | (with_reducible first | exact HB.out | apply below_alloc | apply pw_below_drewN | apply below_drew1 | refine below_set ?_ GE101.out | refine below_set ?_ GE113.out | refine below_set ?_ GE118.out | refine below_set ?_ GE125.out) | exact HB.out)) hb)
            clear HO_114000
            clear HO_119000
            clear HO_126000
            clear BK101
            clear BK113
            clear BK118
            clear BK125
            clear HB
            have HO_114000 := n0_
            have HO_119000 := n1_
            have HO_126000 := n2_
            have HO129 := n3_
            have BK101 := n4_
            have BK113 := n5_
            have BK118 := n6_
            have BK125 := n7_
            have HB := n8_
            clear n0_ n1_ n2_ n3_ n4_ n5_ n6_ n7_ n8_
            (try clear hb)
            (try clear hb2)
            (try clear hk)
            (try clear hi)
            (try clear ho0)
            obtain ⟨Ao73, co73, eo73⟩ := Kd.R_slice HO129.out
            (first | subst eo73 | (injection eo73 with f1_ f2_ f3_; have f4_ := f1_.symm; have f5_ := f3_.symm; clear f1_ f2_ f3_; subst f4_; subst f5_))
            refine hK.out _ _ ⟨(blk_cell BK118.out 0).trans rfl, (blk_cell BK118.out 1).trans rfl, (blk_cell BK101.out 0).trans rfl, (blk_cell BK101.out 1).trans rfl⟩ (fun hHeld => ?_)
            clear hK K
            refine norm_ (a' := ?_) ?_ ?_
            rotate_left
            · show Act.put _ (some 57) _ = _
              simp only [Act.put, List.setIfInBounds_toArray, List.set_cons_zero, List.set_cons_succ, i64_w, i32_w]
              rfl
            refine one_ (i := 3) (N := some 58) #[true, true, true, true, false] rfl rfl (by kernel_rfl) (by decide) (fun K hK => ?_)
            refine goes_ Try.func15 (by kernel_rfl) rfl #[.agg #[.slice Ao27 t114.length co27, .int .i64 t117], .agg #[.slice Ao73 t127.length co73, .int .i64 t130]] (by rfl) rfl rfl (by (try simp only [List.map_toArray, List.map_cons, List.map_nil]); first | done | rfl | (simp only [List.length_drop, List.length_take]; rfl)) ?_
            with_reducible refine (laws_eqShares.calls kj11 _ _ t114 t117 _ _ t127 t130 true _ ?side1 ?side2 ?side3 ?side4 A67.out).mono ?_
            (case side1 => repeat (first | exact (Kd.R_reads' HO_119000.out).2.2 | (with_reducible refine Kd.C_alloc ?_ _) | (with_reducible refine Kd.C_drewN ?_ _) | (with_reducible refine Kd.C_drew ?_)))
            (case side2 => exact (Kd.R_reads' HO_119000.out).2.1)
            (case side3 => repeat (first | exact (Kd.R_reads' HO129.out).2.2 | (with_reducible refine Kd.C_alloc ?_ _) | (with_reducible refine Kd.C_drewN ?_ _) | (with_reducible refine Kd.C_drew ?_)))
            (case side4 => exact (Kd.R_reads' HO129.out).2.1)
            rintro e w74 ⟨rfl, hb⟩
            refine ⟨_, rfl, ?_⟩
            have n0_ := Aside0.mk (Kd.R_below (by (with_reducible repeat (first | apply Kd.R_alloc | apply Kd.R_drewN | apply Kd.R_drew)); exact HO_114000.out) hb)
            have n1_ := Aside0.mk (Kd.R_below (by (with_reducible repeat (first | apply Kd.R_alloc | apply Kd.R_drewN | apply Kd.R_drew)); exact HO_119000.out) hb)
            have n2_ := Aside0.mk (Kd.R_below (by (with_reducible repeat (first | apply Kd.R_alloc | apply Kd.R_drewN | apply Kd.R_drew)); exact HO_126000.out) hb)
            have n3_ := Aside0.mk (Kd.R_below (by (with_reducible repeat (first | apply Kd.R_alloc | apply Kd.R_drewN | apply Kd.R_drew)); exact HO129.out) hb)
            have n4_ := Aside0.mk (blk_below (g := gb101) (o := .cells #[.slice A0_0 l0_0.length c0_0, .int .i64 a0_1] 24 (0, 0)) (by (with_reducible repeat first | apply blk_drewN | apply blk_drew | apply blk_alloc); exact BK101.out) hb)
            have n5_ := Aside0.mk (blk_below (g := gb113) (o := .cells #[.slice Ao21 t107.length co21, .int .i64 t110] 27 (0, 0)) (by (with_reducible repeat first | apply blk_drewN | apply blk_drew | apply blk_alloc); exact BK113.out) hb)
            have n6_ := Aside0.mk (blk_below (g := gb118) (o := .cells #[.slice Ao27 t114.length co27, .int .i64 t117] 27 (0, 0)) (by (with_reducible repeat first | apply blk_drewN | apply blk_drew | apply blk_alloc); exact BK118.out) hb)
            have n7_ := Aside0.mk (blk_below (g := gb125) (o := .cells #[.slice Ao33 t119.length co33, .int .i64 t122] 27 (0, 0)) (by (with_reducible repeat first | apply blk_drewN | apply blk_drew | apply blk_alloc); exact BK125.out) hb)
            have n8_ := Aside0.mk (below_step (by repeat (first | (with_reducible first | exact HB.out | apply below_alloc | apply pw_below_drewN | apply below_drew1 | refine below_set ?_ GE101.out | refine below_set ?_ GE113.out | refine below_set ?_ GE118.out | refine below_set ?_ GE125.out) | exact HB.out)) hb)
            clear HO_114000
            clear HO_119000
            clear HO_126000
            clear HO129
            clear BK101
            clear BK113
            clear BK118
            clear BK125
            clear HB
            have HO_114000 := n0_
            have HO_119000 := n1_
            have HO_126000 := n2_
            have HO129 := n3_
            have BK101 := n4_
            have BK113 := n5_
            have BK118 := n6_
            have BK125 := n7_
            have HB := n8_
            clear n0_ n1_ n2_ n3_ n4_ n5_ n6_ n7_ n8_
            (try clear hb)
            (try clear hb2)
            (try clear hk)
            (try clear hi)
            refine hK.out _ _ ⟨(blk_cell BK118.out 0).trans rfl, (blk_cell BK118.out 1).trans rfl, (blk_cell BK101.out 0).trans rfl, (blk_cell BK101.out 1).trans rfl⟩ (fun hHeld => ?_)
            clear hK K
            refine norm_ (a' := ?_) ?_ ?_
            rotate_left
            · show Act.put _ (some 58) _ = _
              simp only [Act.put, List.setIfInBounds_toArray, List.set_cons_zero, List.set_cons_succ, i64_w, i32_w]
              rfl
            refine pure_ (i := 4) (N := some 59) (v := ?_) (a' := ?_) #[true, true, true, true, true] rfl rfl (by kernel_rfl) (fun _ _ _ h => h) (Or.inl ⟨by rfl, ?_⟩) ?_ ?_
            rotate_left
            · intro w'
              go_simp
              with_reducible rfl
            rotate_left
            · simp only [Act.put, List.setIfInBounds_toArray, List.set_cons_zero, List.set_cons_succ, i64_w, i32_w]
              rfl
            refine done_ (by kernel_rfl) ?_
            have hnb75 := NB118_101.out
            have hnc75 := NB101_118.out
            have hnb76 := NB118_113.out
            have hnc76 := NB113_118.out
            have hnb77 := NB118_125.out
            have hnc77 := NB125_118.out
            have hcz78_0 : w74.cell? ⟨gb118, 0, none⟩ = some (.slice Ao27 t114.length co27) := (blk_cell BK118.out 0).trans rfl
            have hcz78_1 : w74.cell? ⟨gb118, 1, none⟩ = some (.int .i64 t117) := (blk_cell BK118.out 1).trans rfl
            have hfz78_0 := blk_frozen BK118.out 0
            have hfz78_1 := blk_frozen BK118.out 1
            go_upto_region 14 with (first | ((with_reducible refine gate_callee (f := 24) rfl ?_); refine goesL_ (some 62) rfl rfl Try.func24 (by kernel_rfl) rfl #[.agg #[.slice Ao27 t114.length co27, .int .i64 t117], .int .i64 1] rfl (by (try simp only [List.map_toArray, List.map_cons, List.map_nil]); first | done | rfl | (simp only [List.length_drop, List.length_take]; rfl)) ?_; (with_reducible refine (laws_markShares.calls kj11 (fun k_ => some k_ = (.slice Ao27 t114.length co27 : Value).ownBlock) (.slice Ao27 t114.length co27) t114 t117 1 t132 t133 w _ ?side1 ?side2 A69.out).mono ?_); (case side1 => repeat (first | (with_reducible first | exact HB.out | apply below_alloc | apply pw_below_drewN | apply below_drew1 | refine below_set ?_ GE101.out | refine below_set ?_ GE113.out | refine below_set ?_ GE118.out | refine below_set ?_ GE125.out) | exact HB.out)); (case side2 => exact Kd.R_tight rfl HO_119000.out); rintro e w79 ⟨rfl, hy0, hb, hkp⟩; refine ⟨_, rfl, ?_⟩; have n0_ := Aside0.mk (Kd.R_mono (ok' := fun k_ => some k_ ≠ (.slice Ao27 t114.length co27 : Value).ownBlock ∧ some k_ ≠ (.slice Ao33 t119.length co33 : Value).ownBlock ∧ some k_ ≠ (.slice Ao73 t127.length co73 : Value).ownBlock) (Kd.R_keptB (HO_114000.out) hkp (fun k_ hk_ hs_ => (hk_.1.1) hs_)) (fun k_ hk_ => ⟨hk_.1.1.1, hk_.1.1.2, hk_.1.2⟩)); have n1_ := Aside0.mk (Kd.R_reok rfl hy0 (fun k_ e_ => HO_119000.out.1 k_ e_)); have n2_ := Aside0.mk (Kd.R_mono (ok' := fun k_ => some k_ ≠ (.slice Ao21 t107.length co21 : Value).ownBlock ∧ some k_ ≠ (.slice Ao27 t114.length co27 : Value).ownBlock ∧ some k_ ≠ (.slice Ao73 t127.length co73 : Value).ownBlock) (Kd.R_keptB (HO_126000.out) hkp (fun k_ hk_ hs_ => (hk_.1.2) hs_)) (fun k_ hk_ => ⟨hk_.1.1.1, hk_.1.1.2, hk_.1.2⟩)); have n3_ := Aside0.mk (blk_kept (by (with_reducible repeat first | apply blk_drewN | apply blk_drew | apply blk_alloc); exact BK101.out) hkp (fun hs_ => (fun e_ => (Kd.R_ne HO_119000.out BK101.out (by decide)) e_) hs_)); have n4_ := Aside0.mk (blk_kept (by (with_reducible repeat first | apply blk_drewN | apply blk_drew | apply blk_alloc); exact BK113.out) hkp (fun hs_ => (fun e_ => (Kd.R_ne HO_119000.out BK113.out (by decide)) e_) hs_)); have n5_ := Aside0.mk (blk_kept (by (with_reducible repeat first | apply blk_drewN | apply blk_drew | apply blk_alloc); exact BK118.out) hkp (fun hs_ => (fun e_ => (Kd.R_ne HO_119000.out BK118.out (by decide)) e_) hs_)); have n6_ := Aside0.mk (blk_kept (by (with_reducible repeat first | apply blk_drewN | apply blk_drew | apply blk_alloc); exact BK125.out) hkp (fun hs_ => (fun e_ => (Kd.R_ne HO_119000.out BK125.out (by decide)) e_) hs_)); have n7_ := Aside0.mk (Kd.R_mono (ok' := fun k_ => some k_ ≠ (.slice Ao21 t107.length co21 : Value).ownBlock ∧ some k_ ≠ (.slice Ao27 t114.length co27 : Value).ownBlock ∧ some k_ ≠ (.slice Ao33 t119.length co33 : Value).ownBlock) (Kd.R_keptB (HO129.out) hkp (fun k_ hk_ hs_ => (hk_.1.2) hs_)) (fun k_ hk_ => ⟨hk_.1.1.1.2, hk_.1.1.2, hk_.1.2⟩)); have n8_ := Aside0.mk (hb); clear HO_114000; clear HO_119000; clear HO_126000; clear BK101; clear BK113; clear BK118; clear BK125; clear HO129; clear HB; have HO_114000 := n0_; have HO_119000 := n1_; have HO_126000 := n2_; have BK101 := n3_; have BK113 := n4_; have BK118 := n5_; have BK125 := n6_; have HO129 := n7_; have HB := n8_; clear n0_ n1_ n2_ n3_ n4_ n5_ n6_ n7_ n8_; (try clear hb); (try clear hkp); (try clear hy0)))
            (try simp only [Act.put, List.setIfInBounds_toArray, List.set_cons_zero, List.set_cons_succ])
            go_cut [80] (fun v80 wc => ∃ (kq : Nat) (x80_69 : Bool), v80 = .bool x80_69 ∧ Aside0 (laws_FnExactRoundsOf.j1 kq a1 t111 t112 x80_69 l0_0 a0_1 t107 t110 t119 t122 = some r) ∧ Aside0 (kq ≤ kj11) ∧ Aside0 (Kd.R (Kd.int .i64) 3 wc w.heap.size (fun k_ => some k_ ≠ ((.slice Ao27 t114.length co27) : Value).ownBlock ∧ some k_ ≠ ((.slice Ao33 t119.length co33) : Value).ownBlock) (.slice Ao21 t107.length co21) t107) ∧ Aside0 (Kd.R (Kd.int .i64) 3 wc w.heap.size (fun k_ => some k_ ≠ ((.slice Ao21 t107.length co21) : Value).ownBlock ∧ some k_ ≠ ((.slice Ao33 t119.length co33) : Value).ownBlock) (.slice Ao27 t114.length co27) t133) ∧ Aside0 (Kd.R (Kd.int .i64) 3 wc w.heap.size (fun k_ => some k_ ≠ ((.slice Ao21 t107.length co21) : Value).ownBlock ∧ some k_ ≠ ((.slice Ao27 t114.length co27) : Value).ownBlock) (.slice Ao33 t119.length co33) t119) ∧ Aside0 (wc.heap[gb101]? = some (.cells #[(.slice A0_0 l0_0.length c0_0), .int .i64 a0_1] 24 (0, 0))) ∧ Aside0 (wc.heap[gb113]? = some (.cells #[(.slice Ao21 t107.length co21), .int .i64 t110] 27 (0, 0))) ∧ Aside0 (wc.heap[gb118]? = some (.cells #[(.slice Ao27 t114.length co27), .int .i64 t117] 27 (0, 0))) ∧ Aside0 (wc.heap[gb125]? = some (.cells #[(.slice Ao33 t119.length co33), .int .i64 t122] 27 (0, 0))) ∧ Aside0 (Below w.heap.size w wc))
            case first =>
              have H := HC70.out
              clear HC70
              by_cases c80 : t132 < 0
              · rw [if_pos c80] at H
                have c80b0 : decide (t132 < 0) = true := decide_eq_true c80
                clear c80
                (first | rw [c80b0] | (simp only [i64_w, i32_w]; rw [c80b0]) | skip)
                have H' := Aside0.mk H
                clear H
                go_wp2
                go_meet
                case rel => exact ⟨_, (true), (by first | rfl | (simp; done) | (simp [*]; done)), H', ⟨by have := HJ11.out; first | omega | exact Nat.le_refl _⟩, ⟨by (with_reducible repeat (first | apply Kd.R_alloc | apply Kd.R_drewN | apply Kd.R_drew)); exact Kd.R_mono HO_114000.out (fun _ hk => ⟨hk.1, hk.2.1⟩)⟩, ⟨by (with_reducible repeat (first | apply Kd.R_alloc | apply Kd.R_drewN | apply Kd.R_drew)); exact Kd.R_mono HO_119000.out (fun _ hk => ⟨hk.1.1, hk.1.2⟩)⟩, ⟨by (with_reducible repeat (first | apply Kd.R_alloc | apply Kd.R_drewN | apply Kd.R_drew)); exact Kd.R_mono HO_126000.out (fun _ hk => ⟨hk.1, hk.2.1⟩)⟩, ⟨by (with_reducible repeat first | apply blk_drewN | apply blk_drew | apply blk_alloc); exact BK101.out⟩, ⟨by (with_reducible repeat first | apply blk_drewN | apply blk_drew | apply blk_alloc); exact BK113.out⟩, ⟨by (with_reducible repeat first | apply blk_drewN | apply blk_drew | apply blk_alloc); exact BK118.out⟩, ⟨by (with_reducible repeat first | apply blk_drewN | apply blk_drew | apply blk_alloc); exact BK125.out⟩, ⟨by repeat (first | (with_reducible first | exact HB.out | apply below_alloc | apply pw_below_drewN | apply below_drew1 | refine below_set ?_ GE101.out | refine below_set ?_ GE113.out | refine below_set ?_ GE118.out | refine below_set ?_ GE125.out) | exact HB.out)⟩⟩
              · rw [if_neg c80] at H
                have c80b0 : decide (t132 < 0) = false := decide_eq_false c80
                clear c80
                (first | rw [c80b0] | (simp only [i64_w, i32_w]; rw [c80b0]) | skip)
                replace H := Option.bind_eq_some_iff.mp H
                obtain ⟨t134, A810, H⟩ := H
                replace H : (if t134 = true then (if t123 = t111 then (laws_FnExactRoundsOf.j1 kj11 a1 t111 t112 (t124 != t112) l0_0 a0_1 t107 t110 t119 t122) else (laws_FnExactRoundsOf.j1 kj11 a1 t111 t112 true l0_0 a0_1 t107 t110 t119 t122)) else (laws_FnExactRoundsOf.j1 kj11 a1 t111 t112 true l0_0 a0_1 t107 t110 t119 t122)) = some r := H
                have A81 := Aside0.mk A810
                clear A810
                by_cases c82 : t134 = true
                · subst c82
                  have H1 : (if t123 = t111 then (laws_FnExactRoundsOf.j1 kj11 a1 t111 t112 (t124 != t112) l0_0 a0_1 t107 t110 t119 t122) else (laws_FnExactRoundsOf.j1 kj11 a1 t111 t112 true l0_0 a0_1 t107 t110 t119 t122)) = some r := by rw [if_pos rfl] at H; exact H
                  clear H
                  have H := H1
                  clear H1
                  by_cases c83 : t123 = t111
                  · rw [if_pos c83] at H
                    have c83b0 : (t123 == t111) = true := beq_iff_eq.mpr c83
                    have c83b1 : (t123 != t111) = false := bne_eq_false_iff_eq.mpr c83
                    clear c83
                    have H' := Aside0.mk H
                    clear H
                    have hnb84 := NB125_101.out
                    have hnc84 := NB101_125.out
                    have hnb85 := NB125_113.out
                    have hnc85 := NB113_125.out
                    have hnb86 := NB125_118.out
                    have hnc86 := NB118_125.out
                    have hcz87_0 : w79.cell? ⟨gb125, 0, none⟩ = some (.slice Ao33 t119.length co33) := (blk_cell BK125.out 0).trans rfl
                    have hcz87_1 : w79.cell? ⟨gb125, 1, none⟩ = some (.int .i64 t122) := (blk_cell BK125.out 1).trans rfl
                    have hfz87_0 := blk_frozen BK125.out 0
                    have hfz87_1 := blk_frozen BK125.out 1
                    have hnb88 := NB113_101.out
                    have hnc88 := NB101_113.out
                    have hnb89 := NB113_118.out
                    have hnc89 := NB118_113.out
                    have hcz90_0 : w79.cell? ⟨gb113, 0, none⟩ = some (.slice Ao21 t107.length co21) := (blk_cell BK113.out 0).trans rfl
                    have hcz90_1 : w79.cell? ⟨gb113, 1, none⟩ = some (.int .i64 t110) := (blk_cell BK113.out 1).trans rfl
                    have hfz90_0 := blk_frozen BK113.out 0
                    have hfz90_1 := blk_frozen BK113.out 1
                    go_wp2_with (first | (go_at_call 15; (with_reducible refine (laws_eqShares.calls kj11 _ _ t119 t122 _ _ t107 t110 true _ ?side1 ?side2 ?side3 ?side4 A81.out).mono ?_); (case side1 => repeat (first | exact (Kd.R_reads' HO_126000.out).2.2 | (with_reducible refine Kd.C_alloc ?_ _) | (with_reducible refine Kd.C_drewN ?_ _) | (with_reducible refine Kd.C_drew ?_))); (case side2 => exact (Kd.R_reads' HO_126000.out).2.1); (case side3 => repeat (first | exact (Kd.R_reads' HO_114000.out).2.2 | (with_reducible refine Kd.C_alloc ?_ _) | (with_reducible refine Kd.C_drewN ?_ _) | (with_reducible refine Kd.C_drew ?_))); (case side4 => exact (Kd.R_reads' HO_114000.out).2.1); rintro e w91 ⟨rfl, hb⟩; have n0_ := Aside0.mk (Kd.R_below (by (with_reducible repeat (first | apply Kd.R_alloc | apply Kd.R_drewN | apply Kd.R_drew)); exact HO_114000.out) hb); have n1_ := Aside0.mk (Kd.R_below (by (with_reducible repeat (first | apply Kd.R_alloc | apply Kd.R_drewN | apply Kd.R_drew)); exact HO_119000.out) hb); have n2_ := Aside0.mk (Kd.R_below (by (with_reducible repeat (first | apply Kd.R_alloc | apply Kd.R_drewN | apply Kd.R_drew)); exact HO_126000.out) hb); have n3_ := Aside0.mk (Kd.R_below (by (with_reducible repeat (first | apply Kd.R_alloc | apply Kd.R_drewN | apply Kd.R_drew)); exact HO129.out) hb); have n4_ := Aside0.mk (blk_below (g := gb101) (o := .cells #[.slice A0_0 l0_0.length c0_0, .int .i64 a0_1] 24 (0, 0)) (by (with_reducible repeat first | apply blk_drewN | apply blk_drew | apply blk_alloc); exact BK101.out) hb); have n5_ := Aside0.mk (blk_below (g := gb113) (o := .cells #[.slice Ao21 t107.length co21, .int .i64 t110] 27 (0, 0)) (by (with_reducible repeat first | apply blk_drewN | apply blk_drew | apply blk_alloc); exact BK113.out) hb); have n6_ := Aside0.mk (blk_below (g := gb118) (o := .cells #[.slice Ao27 t114.length co27, .int .i64 t117] 27 (0, 0)) (by (with_reducible repeat first | apply blk_drewN | apply blk_drew | apply blk_alloc); exact BK118.out) hb); have n7_ := Aside0.mk (blk_below (g := gb125) (o := .cells #[.slice Ao33 t119.length co33, .int .i64 t122] 27 (0, 0)) (by (with_reducible repeat first | apply blk_drewN | apply blk_drew | apply blk_alloc); exact BK125.out) hb); have n8_ := Aside0.mk (below_step (by repeat (first | (with_reducible first | exact HB.out | apply below_alloc | apply pw_below_drewN | apply below_drew1 | refine below_set ?_ GE101.out | refine below_set ?_ GE113.out | refine below_set ?_ GE118.out | refine below_set ?_ GE125.out) | exact HB.out)) hb); clear HO_114000; clear HO_119000; clear HO_126000; clear HO129; clear BK101; clear BK113; clear BK118; clear BK125; clear HB; have HO_114000 := n0_; have HO_119000 := n1_; have HO_126000 := n2_; have HO129 := n3_; have BK101 := n4_; have BK113 := n5_; have BK118 := n6_; have BK125 := n7_; have HB := n8_; clear n0_ n1_ n2_ n3_ n4_ n5_ n6_ n7_ n8_; (try clear hb); (try clear hb2); (try clear hk); (try clear hi)))
                    go_meet
                    case rel => exact ⟨_, ((t124 != t112)), (by first | rfl | (simp; done) | (simp [*]; done)), H', ⟨by have := HJ11.out; first | omega | exact Nat.le_refl _⟩, ⟨by (with_reducible repeat (first | apply Kd.R_alloc | apply Kd.R_drewN | apply Kd.R_drew)); exact Kd.R_mono HO_114000.out (fun _ hk => ⟨hk.1, hk.2.1⟩)⟩, ⟨by (with_reducible repeat (first | apply Kd.R_alloc | apply Kd.R_drewN | apply Kd.R_drew)); exact Kd.R_mono HO_119000.out (fun _ hk => ⟨hk.1.1, hk.1.2⟩)⟩, ⟨by (with_reducible repeat (first | apply Kd.R_alloc | apply Kd.R_drewN | apply Kd.R_drew)); exact Kd.R_mono HO_126000.out (fun _ hk => ⟨hk.1, hk.2.1⟩)⟩, ⟨by (with_reducible repeat first | apply blk_drewN | apply blk_drew | apply blk_alloc); exact BK101.out⟩, ⟨by (with_reducible repeat first | apply blk_drewN | apply blk_drew | apply blk_alloc); exact BK113.out⟩, ⟨by (with_reducible repeat first | apply blk_drewN | apply blk_drew | apply blk_alloc); exact BK118.out⟩, ⟨by (with_reducible repeat first | apply blk_drewN | apply blk_drew | apply blk_alloc); exact BK125.out⟩, ⟨by repeat (first | (with_reducible first | exact HB.out | apply below_alloc | apply pw_below_drewN | apply below_drew1 | refine below_set ?_ GE101.out | refine below_set ?_ GE113.out | refine below_set ?_ GE118.out | refine below_set ?_ GE125.out) | exact HB.out)⟩⟩
                  · rw [if_neg c83] at H
                    have c83b0 : (t123 == t111) = false := beq_eq_false_iff_ne.mpr c83
                    have c83b1 : (t123 != t111) = true := bne_iff_ne.mpr c83
                    have H' := Aside0.mk H
                    clear H
                    have hnb92 := NB125_101.out
                    have hnc92 := NB101_125.out
                    have hnb93 := NB125_113.out
                    have hnc93 := NB113_125.out
                    have hnb94 := NB125_118.out
                    have hnc94 := NB118_125.out
                    have hcz95_0 : w79.cell? ⟨gb125, 0, none⟩ = some (.slice Ao33 t119.length co33) := (blk_cell BK125.out 0).trans rfl
                    have hcz95_1 : w79.cell? ⟨gb125, 1, none⟩ = some (.int .i64 t122) := (blk_cell BK125.out 1).trans rfl
                    have hfz95_0 := blk_frozen BK125.out 0
                    have hfz95_1 := blk_frozen BK125.out 1
                    have hnb96 := NB113_101.out
                    have hnc96 := NB101_113.out
                    have hnb97 := NB113_118.out
                    have hnc97 := NB118_113.out
                    have hcz98_0 : w79.cell? ⟨gb113, 0, none⟩ = some (.slice Ao21 t107.length co21) := (blk_cell BK113.out 0).trans rfl
                    have hcz98_1 : w79.cell? ⟨gb113, 1, none⟩ = some (.int .i64 t110) := (blk_cell BK113.out 1).trans rfl
                    have hfz98_0 := blk_frozen BK113.out 0
                    have hfz98_1 := blk_frozen BK113.out 1
                    go_wp2_with (first | (go_at_call 15; (with_reducible refine (laws_eqShares.calls kj11 _ _ t119 t122 _ _ t107 t110 true _ ?side1 ?side2 ?side3 ?side4 A81.out).mono ?_); (case side1 => repeat (first | exact (Kd.R_reads' HO_126000.out).2.2 | (with_reducible refine Kd.C_alloc ?_ _) | (with_reducible refine Kd.C_drewN ?_ _) | (with_reducible refine Kd.C_drew ?_))); (case side2 => exact (Kd.R_reads' HO_126000.out).2.1); (case side3 => repeat (first | exact (Kd.R_reads' HO_114000.out).2.2 | (with_reducible refine Kd.C_alloc ?_ _) | (with_reducible refine Kd.C_drewN ?_ _) | (with_reducible refine Kd.C_drew ?_))); (case side4 => exact (Kd.R_reads' HO_114000.out).2.1); rintro e w99 ⟨rfl, hb⟩; have n0_ := Aside0.mk (Kd.R_below (by (with_reducible repeat (first | apply Kd.R_alloc | apply Kd.R_drewN | apply Kd.R_drew)); exact HO_114000.out) hb); have n1_ := Aside0.mk (Kd.R_below (by (with_reducible repeat (first | apply Kd.R_alloc | apply Kd.R_drewN | apply Kd.R_drew)); exact HO_119000.out) hb); have n2_ := Aside0.mk (Kd.R_below (by (with_reducible repeat (first | apply Kd.R_alloc | apply Kd.R_drewN | apply Kd.R_drew)); exact HO_126000.out) hb); have n3_ := Aside0.mk (Kd.R_below (by (with_reducible repeat (first | apply Kd.R_alloc | apply Kd.R_drewN | apply Kd.R_drew)); exact HO129.out) hb); have n4_ := Aside0.mk (blk_below (g := gb101) (o := .cells #[.slice A0_0 l0_0.length c0_0, .int .i64 a0_1] 24 (0, 0)) (by (with_reducible repeat first | apply blk_drewN | apply blk_drew | apply blk_alloc); exact BK101.out) hb); have n5_ := Aside0.mk (blk_below (g := gb113) (o := .cells #[.slice Ao21 t107.length co21, .int .i64 t110] 27 (0, 0)) (by (with_reducible repeat first | apply blk_drewN | apply blk_drew | apply blk_alloc); exact BK113.out) hb); have n6_ := Aside0.mk (blk_below (g := gb118) (o := .cells #[.slice Ao27 t114.length co27, .int .i64 t117] 27 (0, 0)) (by (with_reducible repeat first | apply blk_drewN | apply blk_drew | apply blk_alloc); exact BK118.out) hb); have n7_ := Aside0.mk (blk_below (g := gb125) (o := .cells #[.slice Ao33 t119.length co33, .int .i64 t122] 27 (0, 0)) (by (with_reducible repeat first | apply blk_drewN | apply blk_drew | apply blk_alloc); exact BK125.out) hb); have n8_ := Aside0.mk (below_step (by repeat (first | (with_reducible first | exact HB.out | apply below_alloc | apply pw_below_drewN | apply below_drew1 | refine below_set ?_ GE101.out | refine below_set ?_ GE113.out | refine below_set ?_ GE118.out | refine below_set ?_ GE125.out) | exact HB.out)) hb); clear HO_114000; clear HO_119000; clear HO_126000; clear HO129; clear BK101; clear BK113; clear BK118; clear BK125; clear HB; have HO_114000 := n0_; have HO_119000 := n1_; have HO_126000 := n2_; have HO129 := n3_; have BK101 := n4_; have BK113 := n5_; have BK118 := n6_; have BK125 := n7_; have HB := n8_; clear n0_ n1_ n2_ n3_ n4_ n5_ n6_ n7_ n8_; (try clear hb); (try clear hb2); (try clear hk); (try clear hi)))
                    go_meet
                    case rel => exact ⟨_, (true), (by first | rfl | (simp; done) | (simp [*]; done)), H', ⟨by have := HJ11.out; first | omega | exact Nat.le_refl _⟩, ⟨by (with_reducible repeat (first | apply Kd.R_alloc | apply Kd.R_drewN | apply Kd.R_drew)); exact Kd.R_mono HO_114000.out (fun _ hk => ⟨hk.1, hk.2.1⟩)⟩, ⟨by (with_reducible repeat (first | apply Kd.R_alloc | apply Kd.R_drewN | apply Kd.R_drew)); exact Kd.R_mono HO_119000.out (fun _ hk => ⟨hk.1.1, hk.1.2⟩)⟩, ⟨by (with_reducible repeat (first | apply Kd.R_alloc | apply Kd.R_drewN | apply Kd.R_drew)); exact Kd.R_mono HO_126000.out (fun _ hk => ⟨hk.1, hk.2.1⟩)⟩, ⟨by (with_reducible repeat first | apply blk_drewN | apply blk_drew | apply blk_alloc); exact BK101.out⟩, ⟨by (with_reducible repeat first | apply blk_drewN | apply blk_drew | apply blk_alloc); exact BK113.out⟩, ⟨by (with_reducible repeat first | apply blk_drewN | apply blk_drew | apply blk_alloc); exact BK118.out⟩, ⟨by (with_reducible repeat first | apply blk_drewN | apply blk_drew | apply blk_alloc); exact BK125.out⟩, ⟨by repeat (first | (with_reducible first | exact HB.out | apply below_alloc | apply pw_below_drewN | apply below_drew1 | refine below_set ?_ GE101.out | refine below_set ?_ GE113.out | refine below_set ?_ GE118.out | refine below_set ?_ GE125.out) | exact HB.out)⟩⟩
                · replace c82 := Bool.eq_false_iff.mpr c82
                  subst c82
                  have H1 : (laws_FnExactRoundsOf.j1 kj11 a1 t111 t112 true l0_0 a0_1 t107 t110 t119 t122) = some r := by rw [if_neg (show ¬ (false = true) by decide)] at H; exact H
                  clear H
                  have H := H1
                  clear H1
                  have H' := Aside0.mk H
                  clear H
                  have hnb100 := NB125_101.out
                  have hnc100 := NB101_125.out
                  have hnb101 := NB125_113.out
                  have hnc101 := NB113_125.out
                  have hnb102 := NB125_118.out
                  have hnc102 := NB118_125.out
                  have hcz103_0 : w79.cell? ⟨gb125, 0, none⟩ = some (.slice Ao33 t119.length co33) := (blk_cell BK125.out 0).trans rfl
                  have hcz103_1 : w79.cell? ⟨gb125, 1, none⟩ = some (.int .i64 t122) := (blk_cell BK125.out 1).trans rfl
                  have hfz103_0 := blk_frozen BK125.out 0
                  have hfz103_1 := blk_frozen BK125.out 1
                  have hnb104 := NB113_101.out
                  have hnc104 := NB101_113.out
                  have hnb105 := NB113_118.out
                  have hnc105 := NB118_113.out
                  have hcz106_0 : w79.cell? ⟨gb113, 0, none⟩ = some (.slice Ao21 t107.length co21) := (blk_cell BK113.out 0).trans rfl
                  have hcz106_1 : w79.cell? ⟨gb113, 1, none⟩ = some (.int .i64 t110) := (blk_cell BK113.out 1).trans rfl
                  have hfz106_0 := blk_frozen BK113.out 0
                  have hfz106_1 := blk_frozen BK113.out 1
                  go_wp2_with (first | (go_at_call 15; (with_reducible refine (laws_eqShares.calls kj11 _ _ t119 t122 _ _ t107 t110 false _ ?side1 ?side2 ?side3 ?side4 A81.out).mono ?_); (case side1 => repeat (first | exact (Kd.R_reads' HO_126000.out).2.2 | (with_reducible refine Kd.C_alloc ?_ _) | (with_reducible refine Kd.C_drewN ?_ _) | (with_reducible refine Kd.C_drew ?_))); (case side2 => exact (Kd.R_reads' HO_126000.out).2.1); (case side3 => repeat (first | exact (Kd.R_reads' HO_114000.out).2.2 | (with_reducible refine Kd.C_alloc ?_ _) | (with_reducible refine Kd.C_drewN ?_ _) | (with_reducible refine Kd.C_drew ?_))); (case side4 => exact (Kd.R_reads' HO_114000.out).2.1); rintro e w107 ⟨rfl, hb⟩; have n0_ := Aside0.mk (Kd.R_below (by (with_reducible repeat (first | apply Kd.R_alloc | apply Kd.R_drewN | apply Kd.R_drew)); exact HO_114000.out) hb); have n1_ := Aside0.mk (Kd.R_below (by (with_reducible repeat (first | apply Kd.R_alloc | apply Kd.R_drewN | apply Kd.R_drew)); exact HO_119000.out) hb); have n2_ := Aside0.mk (Kd.R_below (by (with_reducible repeat (first | apply Kd.R_alloc | apply Kd.R_drewN | apply Kd.R_drew)); exact HO_126000.out) hb); have n3_ := Aside0.mk (Kd.R_below (by (with_reducible repeat (first | apply Kd.R_alloc | apply Kd.R_drewN | apply Kd.R_drew)); exact HO129.out) hb); have n4_ := Aside0.mk (blk_below (g := gb101) (o := .cells #[.slice A0_0 l0_0.length c0_0, .int .i64 a0_1] 24 (0, 0)) (by (with_reducible repeat first | apply blk_drewN | apply blk_drew | apply blk_alloc); exact BK101.out) hb); have n5_ := Aside0.mk (blk_below (g := gb113) (o := .cells #[.slice Ao21 t107.length co21, .int .i64 t110] 27 (0, 0)) (by (with_reducible repeat first | apply blk_drewN | apply blk_drew | apply blk_alloc); exact BK113.out) hb); have n6_ := Aside0.mk (blk_below (g := gb118) (o := .cells #[.slice Ao27 t114.length co27, .int .i64 t117] 27 (0, 0)) (by (with_reducible repeat first | apply blk_drewN | apply blk_drew | apply blk_alloc); exact BK118.out) hb); have n7_ := Aside0.mk (blk_below (g := gb125) (o := .cells #[.slice Ao33 t119.length co33, .int .i64 t122] 27 (0, 0)) (by (with_reducible repeat first | apply blk_drewN | apply blk_drew | apply blk_alloc); exact BK125.out) hb); have n8_ := Aside0.mk (below_step (by repeat (first | (with_reducible first | exact HB.out | apply below_alloc | apply pw_below_drewN | apply below_drew1 | refine below_set ?_ GE101.out | refine below_set ?_ GE113.out | refine below_set ?_ GE118.out | refine below_set ?_ GE125.out) | exact HB.out)) hb); clear HO_114000; clear HO_119000; clear HO_126000; clear HO129; clear BK101; clear BK113; clear BK118; clear BK125; clear HB; have HO_114000 := n0_; have HO_119000 := n1_; have HO_126000 := n2_; have HO129 := n3_; have BK101 := n4_; have BK113 := n5_; have BK118 := n6_; have BK125 := n7_; have HB := n8_; clear n0_ n1_ n2_ n3_ n4_ n5_ n6_ n7_ n8_; (try clear hb); (try clear hb2); (try clear hk); (try clear hi)))
                  go_meet
                  case rel => exact ⟨_, (true), (by first | rfl | (simp; done) | (simp [*]; done)), H', ⟨by have := HJ11.out; first | omega | exact Nat.le_refl _⟩, ⟨by (with_reducible repeat (first | apply Kd.R_alloc | apply Kd.R_drewN | apply Kd.R_drew)); exact Kd.R_mono HO_114000.out (fun _ hk => ⟨hk.1, hk.2.1⟩)⟩, ⟨by (with_reducible repeat (first | apply Kd.R_alloc | apply Kd.R_drewN | apply Kd.R_drew)); exact Kd.R_mono HO_119000.out (fun _ hk => ⟨hk.1.1, hk.1.2⟩)⟩, ⟨by (with_reducible repeat (first | apply Kd.R_alloc | apply Kd.R_drewN | apply Kd.R_drew)); exact Kd.R_mono HO_126000.out (fun _ hk => ⟨hk.1, hk.2.1⟩)⟩, ⟨by (with_reducible repeat first | apply blk_drewN | apply blk_drew | apply blk_alloc); exact BK101.out⟩, ⟨by (with_reducible repeat first | apply blk_drewN | apply blk_drew | apply blk_alloc); exact BK113.out⟩, ⟨by (with_reducible repeat first | apply blk_drewN | apply blk_drew | apply blk_alloc); exact BK118.out⟩, ⟨by (with_reducible repeat first | apply blk_drewN | apply blk_drew | apply blk_alloc); exact BK125.out⟩, ⟨by repeat (first | (with_reducible first | exact HB.out | apply below_alloc | apply pw_below_drewN | apply below_drew1 | refine below_set ?_ GE101.out | refine below_set ?_ GE113.out | refine below_set ?_ GE118.out | refine below_set ?_ GE125.out) | exact HB.out)⟩⟩
            case rest =>
              clear HC70
              try clear c1
              try clear c2
              try clear p2
              try clear c3
              try clear c4
              try clear c4b0
              try clear c5
              try clear c6
              try clear c7
              try clear c8
              try clear c9
              try clear c10
              try clear c11
              try clear c13
              try clear c15
              try clear c22
              try clear c24
              try clear c28
              try clear c29
              try clear c30
              try clear c31
              try clear c34
              try clear c35
              try clear c36
              try clear c39
              try clear c40
              try clear c40b0
              try clear c40b1
              try clear c41
              try clear c42
              try clear c43
              try clear c45
              try clear c46
              try clear c49
              try clear c50
              try clear c51
              try clear c53
              try clear c54
              try clear c57
              try clear c58
              try clear c59
              try clear c61
              try clear c62
              try clear c65
              try clear c68
              try clear c75
              try clear c76
              try clear c77
              try clear c80
              try clear c80b0
              try clear c82
              try clear c83
              try clear c83b0
              try clear c83b1
              try clear c84
              try clear c85
              try clear c86
              try clear c88
              try clear c89
              try clear c92
              try clear c93
              try clear c94
              try clear c96
              try clear c97
              try clear c100
              try clear c101
              try clear c102
              try clear c104
              try clear c105
              try clear hcz103_0
              try clear hcz103_1
              try clear hcz106_0
              try clear hcz106_1
              try clear hcz14_0
              try clear hcz14_1
              try clear hcz16_0
              try clear hcz16_1
              try clear hcz23_0
              try clear hcz23_1
              try clear hcz24_0
              try clear hcz24_1
              try clear hcz30_0
              try clear hcz30_1
              try clear hcz37_0
              try clear hcz37_1
              try clear hcz44_0
              try clear hcz44_1
              try clear hcz47_0
              try clear hcz47_1
              try clear hcz52_0
              try clear hcz52_1
              try clear hcz55_0
              try clear hcz55_1
              try clear hcz60_0
              try clear hcz60_1
              try clear hcz63_0
              try clear hcz63_1
              try clear hcz6_0
              try clear hcz6_1
              try clear hcz78_0
              try clear hcz78_1
              try clear hcz87_0
              try clear hcz87_1
              try clear hcz90_0
              try clear hcz90_1
              try clear hcz95_0
              try clear hcz95_1
              try clear hcz98_0
              try clear hcz98_1
              try clear hfz103_0
              try clear hfz103_1
              try clear hfz106_0
              try clear hfz106_1
              try clear hfz14_0
              try clear hfz14_1
              try clear hfz16_0
              try clear hfz16_1
              try clear hfz23_0
              try clear hfz23_1
              try clear hfz24_0
              try clear hfz24_1
              try clear hfz30_0
              try clear hfz30_1
              try clear hfz37_0
              try clear hfz37_1
              try clear hfz44_0
              try clear hfz44_1
              try clear hfz47_0
              try clear hfz47_1
              try clear hfz52_0
              try clear hfz52_1
              try clear hfz55_0
              try clear hfz55_1
              try clear hfz60_0
              try clear hfz60_1
              try clear hfz63_0
              try clear hfz63_1
              try clear hfz6_0
              try clear hfz6_1
              try clear hfz78_0
              try clear hfz78_1
              try clear hfz87_0
              try clear hfz87_1
              try clear hfz90_0
              try clear hfz90_1
              try clear hfz95_0
              try clear hfz95_1
              try clear hfz98_0
              try clear hfz98_1
              try clear p2
              obtain ⟨kq, x80_69, rfl, HA, HJ69, HO_114000, HO_119000, HO_126000, BK101, BK113, BK118, BK125, HB⟩ := hcut
              have hl119000_69 := (Kd.R_reads' HO_119000.out).1
              rw [hl119000_69] at HO_119000
              (try simp only [hl119000_69])
              (try simp only [hl119000_69] at BK101)
              (try simp only [hl119000_69] at BK113)
              (try simp only [hl119000_69] at BK118)
              (try simp only [hl119000_69] at BK125)
              (try simp only [hl119000_69] at HO_114000)
              (try simp only [hl119000_69] at HO_126000)
              cases kq with
              | zero => exact absurd HA.out (by simp [laws_FnExactRoundsOf.j1])
              | succ kj69 =>
                have H := HA.out
                clear HA
                simp only [laws_FnExactRoundsOf.j1] at H
                by_cases c108 : x80_69 = true
                · subst c108
                  have H1 : (some false) = some r := by rw [if_pos rfl] at H; exact H
                  clear H
                  have H := H1
                  clear H1
                  obtain rfl := Option.some.inj H
                  go_wp2
                  go_ret
                  exact ⟨by first | rfl | (simp [errW_none, errW_some] <;> rfl) | (simp [*, errW_none, errW_some] <;> rfl), by repeat (first | (with_reducible first | exact HB.out | apply below_alloc | apply pw_below_drewN | apply below_drew1 | refine below_set ?_ GE101.out | refine below_set ?_ GE113.out | refine below_set ?_ GE118.out | refine below_set ?_ GE125.out) | exact HB.out)⟩
                · replace c108 := Bool.eq_false_iff.mpr c108
                  subst c108
                  have H1 : ((laws_markShares.f kj69 t119 t122 1).bind fun bt135 => ((laws_heldShares.f kj69 bt135.2 t122 1).bind fun t137 => (if t137 < 0 then (some false) else (if t137 = bt135.1 then ((laws_toShares.f kj69 l0_0 a0_1).bind fun bt138 => ((impl_RoundsOf.f kj69 bt138.1 bt138.2 a1).bind fun bt142 => ((laws_eqShares.f kj69 bt142.1 bt142.2.1 t107 t110).bind fun t149 => (if t149 = true then (if bt142.2.2.1 = t111 then (laws_FnExactRoundsOf.j2 kj69 bt135.1 (bt142.2.2.2 != t112) bt135.2 t122) else (laws_FnExactRoundsOf.j2 kj69 bt135.1 true bt135.2 t122)) else (laws_FnExactRoundsOf.j2 kj69 bt135.1 true bt135.2 t122))))) else (some false))))) = some r := by rw [if_neg (show ¬ (false = true) by decide)] at H; exact H
                  clear H
                  have H := H1
                  clear H1
                  replace H := Option.bind_eq_some_iff.mp H
                  obtain ⟨⟨t135, t136⟩, A1090, H⟩ := H
                  replace H : ((laws_heldShares.f kj69 t136 t122 1).bind fun t137 => (if t137 < 0 then (some false) else (if t137 = t135 then ((laws_toShares.f kj69 l0_0 a0_1).bind fun bt138 => ((impl_RoundsOf.f kj69 bt138.1 bt138.2 a1).bind fun bt142 => ((laws_eqShares.f kj69 bt142.1 bt142.2.1 t107 t110).bind fun t149 => (if t149 = true then (if bt142.2.2.1 = t111 then (laws_FnExactRoundsOf.j2 kj69 t135 (bt142.2.2.2 != t112) t136 t122) else (laws_FnExactRoundsOf.j2 kj69 t135 true t136 t122)) else (laws_FnExactRoundsOf.j2 kj69 t135 true t136 t122))))) else (some false)))) = some r := H
                  have A109 := Aside0.mk A1090
                  clear A1090
                  replace H := Option.bind_eq_some_iff.mp H
                  obtain ⟨t137, A1100, H⟩ := H
                  replace H : (if t137 < 0 then (some false) else (if t137 = t135 then ((laws_toShares.f kj69 l0_0 a0_1).bind fun bt138 => ((impl_RoundsOf.f kj69 bt138.1 bt138.2 a1).bind fun bt142 => ((laws_eqShares.f kj69 bt142.1 bt142.2.1 t107 t110).bind fun t149 => (if t149 = true then (if bt142.2.2.1 = t111 then (laws_FnExactRoundsOf.j2 kj69 t135 (bt142.2.2.2 != t112) t136 t122) else (laws_FnExactRoundsOf.j2 kj69 t135 true t136 t122)) else (laws_FnExactRoundsOf.j2 kj69 t135 true t136 t122))))) else (some false))) = some r := H
                  have A110 := Aside0.mk A1100
                  clear A1100
                  by_cases c111 : t137 < 0
                  · rw [if_pos c111] at H
                    have c111b0 : decide (t137 < 0) = true := decide_eq_true c111
                    clear c111
                    obtain rfl := Option.some.inj H
                    have hnb112 := NB125_101.out
                    have hnc112 := NB101_125.out
                    have hnb113 := NB125_113.out
                    have hnc113 := NB113_125.out
                    have hnb114 := NB125_118.out
                    have hnc114 := NB118_125.out
                    have hcz115_0 : wc.cell? ⟨gb125, 0, none⟩ = some (.slice Ao33 t119.length co33) := (blk_cell BK125.out 0).trans rfl
                    have hcz115_1 : wc.cell? ⟨gb125, 1, none⟩ = some (.int .i64 t122) := (blk_cell BK125.out 1).trans rfl
                    have hfz115_0 := blk_frozen BK125.out 0
                    have hfz115_1 := blk_frozen BK125.out 1
                    go_wp2_with (first | ((with_reducible refine gate_callee (f := 24) rfl ?_); refine goesL_ (some 83) rfl rfl Try.func24 (by kernel_rfl) rfl #[.agg #[.slice Ao33 t119.length co33, .int .i64 t122], .int .i64 1] rfl (by (try simp only [List.map_toArray, List.map_cons, List.map_nil]); first | done | rfl | (simp only [List.length_drop, List.length_take]; rfl)) ?_; (with_reducible refine (laws_markShares.calls kj69 (fun k_ => some k_ = (.slice Ao33 t119.length co33 : Value).ownBlock) (.slice Ao33 t119.length co33) t119 t122 1 t135 t136 w _ ?side1 ?side2 A109.out).mono ?_); (case side1 => repeat (first | (with_reducible first | exact HB.out | apply below_alloc | apply pw_below_drewN | apply below_drew1 | refine below_set ?_ GE101.out | refine below_set ?_ GE113.out | refine below_set ?_ GE118.out | refine below_set ?_ GE125.out) | exact HB.out)); (case side2 => exact Kd.R_tight rfl HO_126000.out); rintro e w116 ⟨rfl, hy0, hb, hkp⟩; refine ⟨_, rfl, ?_⟩; have n0_ := Aside0.mk (Kd.R_mono (ok' := fun k_ => some k_ ≠ (.slice Ao27 t133.length co27 : Value).ownBlock ∧ some k_ ≠ (.slice Ao33 t119.length co33 : Value).ownBlock) (Kd.R_keptB (HO_114000.out) hkp (fun k_ hk_ hs_ => (hk_.2) hs_)) (fun k_ hk_ => ⟨hk_.1.1, hk_.1.2⟩)); have n1_ := Aside0.mk (Kd.R_mono (ok' := fun k_ => some k_ ≠ (.slice Ao21 t107.length co21 : Value).ownBlock ∧ some k_ ≠ (.slice Ao33 t119.length co33 : Value).ownBlock) (Kd.R_keptB (HO_119000.out) hkp (fun k_ hk_ hs_ => (hk_.2) hs_)) (fun k_ hk_ => ⟨hk_.1.1, hk_.1.2⟩)); have n2_ := Aside0.mk (Kd.R_reok rfl hy0 (fun k_ e_ => HO_126000.out.1 k_ e_)); have n3_ := Aside0.mk (blk_kept (by (with_reducible repeat first | apply blk_drewN | apply blk_drew | apply blk_alloc); exact BK101.out) hkp (fun hs_ => (fun e_ => (Kd.R_ne HO_126000.out BK101.out (by decide)) e_) hs_)); have n4_ := Aside0.mk (blk_kept (by (with_reducible repeat first | apply blk_drewN | apply blk_drew | apply blk_alloc); exact BK113.out) hkp (fun hs_ => (fun e_ => (Kd.R_ne HO_126000.out BK113.out (by decide)) e_) hs_)); have n5_ := Aside0.mk (blk_kept (by (with_reducible repeat first | apply blk_drewN | apply blk_drew | apply blk_alloc); exact BK118.out) hkp (fun hs_ => (fun e_ => (Kd.R_ne HO_126000.out BK118.out (by decide)) e_) hs_)); have n6_ := Aside0.mk (blk_kept (by (with_reducible repeat first | apply blk_drewN | apply blk_drew | apply blk_alloc); exact BK125.out) hkp (fun hs_ => (fun e_ => (Kd.R_ne HO_126000.out BK125.out (by decide)) e_) hs_)); have n7_ := Aside0.mk (hb); clear HO_114000; clear HO_119000; clear HO_126000; clear BK101; clear BK113; clear BK118; clear BK125; clear HB; have HO_114000 := n0_; have HO_119000 := n1_; have HO_126000 := n2_; have BK101 := n3_; have BK113 := n4_; have BK118 := n5_; have BK125 := n6_; have HB := n7_; clear n0_ n1_ n2_ n3_ n4_ n5_ n6_ n7_; (try clear hb); (try clear hkp); (try clear hy0); have hcz117_0 : w116.cell? ⟨gb125, 0, none⟩ = some (.slice Ao33 t119.length co33) := (blk_cell BK125.out 0).trans rfl; have hcz117_1 : w116.cell? ⟨gb125, 1, none⟩ = some (.int .i64 t122) := (blk_cell BK125.out 1).trans rfl; have hfz117_0 := blk_frozen BK125.out 0; have hfz117_1 := blk_frozen BK125.out 1) | ((with_reducible refine gate_callee (f := 25) rfl ?_); refine goesL_ (some 86) rfl rfl Try.func25 (by kernel_rfl) rfl #[.agg #[.slice Ao33 t136.length co33, .int .i64 t122], .int .i64 1] rfl (by (try simp only [List.map_toArray, List.map_cons, List.map_nil]); first | done | (rw [show t136.length = t119.length from (Kd.R_reads' HO_126000.out).1.symm] <;> rfl) | rfl | (simp only [List.length_drop, List.length_take]; rfl)) ?_; (with_reducible refine (laws_heldShares.calls kj69 _ _ t136 t122 1 t137 _ ?side1 ?side2 A110.out).mono ?_); (case side1 => repeat (first | exact (Kd.R_reads' HO_126000.out).2.2 | (with_reducible refine Kd.C_alloc ?_ _) | (with_reducible refine Kd.C_drewN ?_ _) | (with_reducible refine Kd.C_drew ?_))); (case side2 => rw [show t136.length = t119.length from (Kd.R_reads' HO_126000.out).1.symm]; exact (Kd.R_reads' HO_126000.out).2.1); rintro e w118 ⟨rfl, hb⟩; refine ⟨_, rfl, ?_⟩; have n0_ := Aside0.mk (Kd.R_below (by (with_reducible repeat (first | apply Kd.R_alloc | apply Kd.R_drewN | apply Kd.R_drew)); exact HO_114000.out) hb); have n1_ := Aside0.mk (Kd.R_below (by (with_reducible repeat (first | apply Kd.R_alloc | apply Kd.R_drewN | apply Kd.R_drew)); exact HO_119000.out) hb); have n2_ := Aside0.mk (Kd.R_below (by (with_reducible repeat (first | apply Kd.R_alloc | apply Kd.R_drewN | apply Kd.R_drew)); exact HO_126000.out) hb); have n3_ := Aside0.mk (blk_below (g := gb101) (o := .cells #[.slice A0_0 l0_0.length c0_0, .int .i64 a0_1] 24 (0, 0)) (by (with_reducible repeat first | apply blk_drewN | apply blk_drew | apply blk_alloc); exact BK101.out) hb); have n4_ := Aside0.mk (blk_below (g := gb113) (o := .cells #[.slice Ao21 t107.length co21, .int .i64 t110] 27 (0, 0)) (by (with_reducible repeat first | apply blk_drewN | apply blk_drew | apply blk_alloc); exact BK113.out) hb); have n5_ := Aside0.mk (blk_below (g := gb118) (o := .cells #[.slice Ao27 t133.length co27, .int .i64 t117] 27 (0, 0)) (by (with_reducible repeat first | apply blk_drewN | apply blk_drew | apply blk_alloc); exact BK118.out) hb); have n6_ := Aside0.mk (blk_below (g := gb125) (o := .cells #[.slice Ao33 t119.length co33, .int .i64 t122] 27 (0, 0)) (by (with_reducible repeat first | apply blk_drewN | apply blk_drew | apply blk_alloc); exact BK125.out) hb); have n7_ := Aside0.mk (below_step (by repeat (first | (with_reducible first | exact HB.out | apply below_alloc | apply pw_below_drewN | apply below_drew1 | refine below_set ?_ GE101.out | refine below_set ?_ GE113.out | refine below_set ?_ GE118.out | refine below_set ?_ GE125.out) | exact HB.out)) hb); clear HO_114000; clear HO_119000; clear HO_126000; clear BK101; clear BK113; clear BK118; clear BK125; clear HB; have HO_114000 := n0_; have HO_119000 := n1_; have HO_126000 := n2_; have BK101 := n3_; have BK113 := n4_; have BK118 := n5_; have BK125 := n6_; have HB := n7_; clear n0_ n1_ n2_ n3_ n4_ n5_ n6_ n7_; (try clear hb); (try clear hb2); (try clear hk); (try clear hi)))
                    go_ret
                    exact ⟨by first | rfl | (simp [errW_none, errW_some] <;> rfl) | (simp [*, errW_none, errW_some] <;> rfl), by repeat (first | (with_reducible first | exact HB.out | apply below_alloc | apply pw_below_drewN | apply below_drew1 | refine below_set ?_ GE101.out | refine below_set ?_ GE113.out | refine below_set ?_ GE118.out | refine below_set ?_ GE125.out) | exact HB.out)⟩
                  · rw [if_neg c111] at H
                    have c111b0 : decide (t137 < 0) = false := decide_eq_false c111
                    clear c111
                    by_cases c119 : t137 = t135
                    · rw [if_pos c119] at H
                      have c119b0 : (t137 == t135) = true := beq_iff_eq.mpr c119
                      have c119b1 : (t137 != t135) = false := bne_eq_false_iff_eq.mpr c119
                      clear c119
                      replace H := Option.bind_eq_some_iff.mp H
                      obtain ⟨⟨t138, t141⟩, A1200, H⟩ := H
                      replace H : ((impl_RoundsOf.f kj69 t138 t141 a1).bind fun bt142 => ((laws_eqShares.f kj69 bt142.1 bt142.2.1 t107 t110).bind fun t149 => (if t149 = true then (if bt142.2.2.1 = t111 then (laws_FnExactRoundsOf.j2 kj69 t135 (bt142.2.2.2 != t112) t136 t122) else (laws_FnExactRoundsOf.j2 kj69 t135 true t136 t122)) else (laws_FnExactRoundsOf.j2 kj69 t135 true t136 t122)))) = some r := H
                      have A120 := Aside0.mk A1200
                      clear A1200
                      replace H := Option.bind_eq_some_iff.mp H
                      obtain ⟨⟨t142, t145, t146, t147⟩, A1210, H⟩ := H
                      replace H : ((laws_eqShares.f kj69 t142 t145 t107 t110).bind fun t149 => (if t149 = true then (if t146 = t111 then (laws_FnExactRoundsOf.j2 kj69 t135 (t147 != t112) t136 t122) else (laws_FnExactRoundsOf.j2 kj69 t135 true t136 t122)) else (laws_FnExactRoundsOf.j2 kj69 t135 true t136 t122))) = some r := H
                      have A121 := Aside0.mk A1210
                      clear A1210
                      have HC122 := Aside0.mk H
                      clear H
                      have hnb123 := NB125_101.out
                      have hnc123 := NB101_125.out
                      have hnb124 := NB125_113.out
                      have hnc124 := NB113_125.out
                      have hnb125 := NB125_118.out
                      have hnc125 := NB118_125.out
                      have hcz126_0 : wc.cell? ⟨gb125, 0, none⟩ = some (.slice Ao33 t119.length co33) := (blk_cell BK125.out 0).trans rfl
                      have hcz126_1 : wc.cell? ⟨gb125, 1, none⟩ = some (.int .i64 t122) := (blk_cell BK125.out 1).trans rfl
                      have hfz126_0 := blk_frozen BK125.out 0
                      have hfz126_1 := blk_frozen BK125.out 1
                      go_upto_region 25 with (first | ((with_reducible refine gate_callee (f := 24) rfl ?_); refine goesL_ (some 83) rfl rfl Try.func24 (by kernel_rfl) rfl #[.agg #[.slice Ao33 t119.length co33, .int .i64 t122], .int .i64 1] rfl (by (try simp only [List.map_toArray, List.map_cons, List.map_nil]); first | done | rfl | (simp only [List.length_drop, List.length_take]; rfl)) ?_; (with_reducible refine (laws_markShares.calls kj69 (fun k_ => some k_ = (.slice Ao33 t119.length co33 : Value).ownBlock) (.slice Ao33 t119.length co33) t119 t122 1 t135 t136 w _ ?side1 ?side2 A109.out).mono ?_); (case side1 => repeat (first | (with_reducible first | exact HB.out | apply below_alloc | apply pw_below_drewN | apply below_drew1 | refine below_set ?_ GE101.out | refine below_set ?_ GE113.out | refine below_set ?_ GE118.out | refine below_set ?_ GE125.out) | exact HB.out)); (case side2 => exact Kd.R_tight rfl HO_126000.out); rintro e w127 ⟨rfl, hy0, hb, hkp⟩; refine ⟨_, rfl, ?_⟩; have n0_ := Aside0.mk (Kd.R_mono (ok' := fun k_ => some k_ ≠ (.slice Ao27 t133.length co27 : Value).ownBlock ∧ some k_ ≠ (.slice Ao33 t119.length co33 : Value).ownBlock) (Kd.R_keptB (HO_114000.out) hkp (fun k_ hk_ hs_ => (hk_.2) hs_)) (fun k_ hk_ => ⟨hk_.1.1, hk_.1.2⟩)); have n1_ := Aside0.mk (Kd.R_mono (ok' := fun k_ => some k_ ≠ (.slice Ao21 t107.length co21 : Value).ownBlock ∧ some k_ ≠ (.slice Ao33 t119.length co33 : Value).ownBlock) (Kd.R_keptB (HO_119000.out) hkp (fun k_ hk_ hs_ => (hk_.2) hs_)) (fun k_ hk_ => ⟨hk_.1.1, hk_.1.2⟩)); have n2_ := Aside0.mk (Kd.R_reok rfl hy0 (fun k_ e_ => HO_126000.out.1 k_ e_)); have n3_ := Aside0.mk (blk_kept (by (with_reducible repeat first | apply blk_drewN | apply blk_drew | apply blk_alloc); exact BK101.out) hkp (fun hs_ => (fun e_ => (Kd.R_ne HO_126000.out BK101.out (by decide)) e_) hs_)); have n4_ := Aside0.mk (blk_kept (by (with_reducible repeat first | apply blk_drewN | apply blk_drew | apply blk_alloc); exact BK113.out) hkp (fun hs_ => (fun e_ => (Kd.R_ne HO_126000.out BK113.out (by decide)) e_) hs_)); have n5_ := Aside0.mk (blk_kept (by (with_reducible repeat first | apply blk_drewN | apply blk_drew | apply blk_alloc); exact BK118.out) hkp (fun hs_ => (fun e_ => (Kd.R_ne HO_126000.out BK118.out (by decide)) e_) hs_)); have n6_ := Aside0.mk (blk_kept (by (with_reducible repeat first | apply blk_drewN | apply blk_drew | apply blk_alloc); exact BK125.out) hkp (fun hs_ => (fun e_ => (Kd.R_ne HO_126000.out BK125.out (by decide)) e_) hs_)); have n7_ := Aside0.mk (hb); clear HO_114000; clear HO_119000; clear HO_126000; clear BK101; clear BK113; clear BK118; clear BK125; clear HB; have HO_114000 := n0_; have HO_119000 := n1_; have HO_126000 := n2_; have BK101 := n3_; have BK113 := n4_; have BK118 := n5_; have BK125 := n6_; have HB := n7_; clear n0_ n1_ n2_ n3_ n4_ n5_ n6_ n7_; (try clear hb); (try clear hkp); (try clear hy0); have hcz128_0 : w127.cell? ⟨gb125, 0, none⟩ = some (.slice Ao33 t119.length co33) := (blk_cell BK125.out 0).trans rfl; have hcz128_1 : w127.cell? ⟨gb125, 1, none⟩ = some (.int .i64 t122) := (blk_cell BK125.out 1).trans rfl; have hfz128_0 := blk_frozen BK125.out 0; have hfz128_1 := blk_frozen BK125.out 1) | ((with_reducible refine gate_callee (f := 25) rfl ?_); refine goesL_ (some 86) rfl rfl Try.func25 (by kernel_rfl) rfl #[.agg #[.slice Ao33 t136.length co33, .int .i64 t122], .int .i64 1] rfl (by (try simp only [List.map_toArray, List.map_cons, List.map_nil]); first | done | (rw [show t136.length = t119.length from (Kd.R_reads' HO_126000.out).1.symm] <;> rfl) | rfl | (simp only [List.length_drop, List.length_take]; rfl)) ?_; (with_reducible refine (laws_heldShares.calls kj69 _ _ t136 t122 1 t137 _ ?side1 ?side2 A110.out).mono ?_); (case side1 => repeat (first | exact (Kd.R_reads' HO_126000.out).2.2 | (with_reducible refine Kd.C_alloc ?_ _) | (with_reducible refine Kd.C_drewN ?_ _) | (with_reducible refine Kd.C_drew ?_))); (case side2 => rw [show t136.length = t119.length from (Kd.R_reads' HO_126000.out).1.symm]; exact (Kd.R_reads' HO_126000.out).2.1); rintro e w129 ⟨rfl, hb⟩; refine ⟨_, rfl, ?_⟩; have n0_ := Aside0.mk (Kd.R_below (by (with_reducible repeat (first | apply Kd.R_alloc | apply Kd.R_drewN | apply Kd.R_drew)); exact HO_114000.out) hb); have n1_ := Aside0.mk (Kd.R_below (by (with_reducible repeat (first | apply Kd.R_alloc | apply Kd.R_drewN | apply Kd.R_drew)); exact HO_119000.out) hb); have n2_ := Aside0.mk (Kd.R_below (by (with_reducible repeat (first | apply Kd.R_alloc | apply Kd.R_drewN | apply Kd.R_drew)); exact HO_126000.out) hb); have n3_ := Aside0.mk (blk_below (g := gb101) (o := .cells #[.slice A0_0 l0_0.length c0_0, .int .i64 a0_1] 24 (0, 0)) (by (with_reducible repeat first | apply blk_drewN | apply blk_drew | apply blk_alloc); exact BK101.out) hb); have n4_ := Aside0.mk (blk_below (g := gb113) (o := .cells #[.slice Ao21 t107.length co21, .int .i64 t110] 27 (0, 0)) (by (with_reducible repeat first | apply blk_drewN | apply blk_drew | apply blk_alloc); exact BK113.out) hb); have n5_ := Aside0.mk (blk_below (g := gb118) (o := .cells #[.slice Ao27 t133.length co27, .int .i64 t117] 27 (0, 0)) (by (with_reducible repeat first | apply blk_drewN | apply blk_drew | apply blk_alloc); exact BK118.out) hb); have n6_ := Aside0.mk (blk_below (g := gb125) (o := .cells #[.slice Ao33 t119.length co33, .int .i64 t122] 27 (0, 0)) (by (with_reducible repeat first | apply blk_drewN | apply blk_drew | apply blk_alloc); exact BK125.out) hb); have n7_ := Aside0.mk (below_step (by repeat (first | (with_reducible first | exact HB.out | apply below_alloc | apply pw_below_drewN | apply below_drew1 | refine below_set ?_ GE101.out | refine below_set ?_ GE113.out | refine below_set ?_ GE118.out | refine below_set ?_ GE125.out) | exact HB.out)) hb); clear HO_114000; clear HO_119000; clear HO_126000; clear BK101; clear BK113; clear BK118; clear BK125; clear HB; have HO_114000 := n0_; have HO_119000 := n1_; have HO_126000 := n2_; have BK101 := n3_; have BK113 := n4_; have BK118 := n5_; have BK125 := n6_; have HB := n7_; clear n0_ n1_ n2_ n3_ n4_ n5_ n6_ n7_; (try clear hb); (try clear hb2); (try clear hk); (try clear hi); have hnb130 := NB101_113.out; have hnc130 := NB113_101.out; have hnb131 := NB101_118.out; have hnc131 := NB118_101.out; have hcz132_0 : w129.cell? ⟨gb101, 0, none⟩ = some (.slice A0_0 l0_0.length c0_0) := (blk_cell BK101.out 0).trans rfl; have hcz132_1 : w129.cell? ⟨gb101, 1, none⟩ = some (.int .i64 a0_1) := (blk_cell BK101.out 1).trans rfl; have hfz132_0 := blk_frozen BK101.out 0; have hfz132_1 := blk_frozen BK101.out 1) | ((with_reducible refine gate_callee (f := 13) rfl ?_); refine goesL_ (some 94) rfl rfl Try.func13 (by kernel_rfl) rfl #[.agg #[.slice A0_0 l0_0.length c0_0, .int .i64 a0_1]] rfl (by (try simp only [List.map_toArray, List.map_cons, List.map_nil]); first | done | rfl | (simp only [List.length_drop, List.length_take]; rfl)) ?_; (with_reducible refine (laws_toShares.calls kj69 _ _ l0_0 a0_1 t138 t141 _ ?side1 ?side2 A120.out).mono ?_); (case side1 => repeat (first | exact (Kd.C_below HR0_0.out HB.out) | (with_reducible refine Kd.C_alloc ?_ _) | (with_reducible refine Kd.C_drewN ?_ _) | (with_reducible refine Kd.C_drew ?_))); (case side2 => exact HC0_0.out); rintro e w133 ⟨v139, rfl, ho0, hb⟩; refine ⟨_, rfl, ?_⟩; have n0_ := Aside0.mk (Kd.R_elder' (by (with_reducible repeat (first | apply Kd.R_alloc | apply Kd.R_drewN | apply Kd.R_drew)); exact HO_114000.out) (Kd.R_base ho0) hb); have n1_ := Aside0.mk (Kd.R_elder' (by (with_reducible repeat (first | apply Kd.R_alloc | apply Kd.R_drewN | apply Kd.R_drew)); exact HO_119000.out) (Kd.R_base ho0) hb); have n2_ := Aside0.mk (Kd.R_elder' (by (with_reducible repeat (first | apply Kd.R_alloc | apply Kd.R_drewN | apply Kd.R_drew)); exact HO_126000.out) (Kd.R_base ho0) hb); have n3_ := Aside0.mk (Kd.R_lower (Kd.R_new' (Kd.R_new' (Kd.R_new' ho0 (Kd.R_lt (by (with_reducible repeat (first | apply Kd.R_alloc | apply Kd.R_drewN | apply Kd.R_drew)); exact HO_114000.out))) (Kd.R_lt (by (with_reducible repeat (first | apply Kd.R_alloc | apply Kd.R_drewN | apply Kd.R_drew)); exact HO_119000.out))) (Kd.R_lt (by (with_reducible repeat (first | apply Kd.R_alloc | apply Kd.R_drewN | apply Kd.R_drew)); exact HO_126000.out))) (below_size (by repeat (first | (with_reducible first | exact HB.out | apply below_alloc | apply pw_below_drewN | apply below_drew1 | refine below_set ?_ GE101.out | refine below_set ?_ GE113.out | refine below_set ?_ GE118.out | refine below_set ?_ GE125.out) | exact HB.out)))); have n4_ := Aside0.mk (blk_below (g := gb101) (o := .cells #[.slice A0_0 l0_0.length c0_0, .int .i64 a0_1] 24 (0, 0)) (by (with_reducible repeat first | apply blk_drewN | apply blk_drew | apply blk_alloc); exact BK101.out) hb); have n5_ := Aside0.mk (blk_below (g := gb113) (o := .cells #[.slice Ao21 t107.length co21, .int .i64 t110] 27 (0, 0)) (by (with_reducible repeat first | apply blk_drewN | apply blk_drew | apply blk_alloc); exact BK113.out) hb); have n6_ := Aside0.mk (blk_below (g := gb118) (o := .cells #[.slice Ao27 t133.length co27, .int .i64 t117] 27 (0, 0)) (by (with_reducible repeat first | apply blk_drewN | apply blk_drew | apply blk_alloc); exact BK118.out) hb); have n7_ := Aside0.mk (blk_below (g := gb125) (o := .cells #[.slice Ao33 t119.length co33, .int .i64 t122] 27 (0, 0)) (by (with_reducible repeat first | apply blk_drewN | apply blk_drew | apply blk_alloc); exact BK125.out) hb); have n8_ := Aside0.mk (below_step (by repeat (first | (with_reducible first | exact HB.out | apply below_alloc | apply pw_below_drewN | apply below_drew1 | refine below_set ?_ GE101.out | refine below_set ?_ GE113.out | refine below_set ?_ GE118.out | refine below_set ?_ GE125.out) | exact HB.out)) hb); clear HO_114000; clear HO_119000; clear HO_126000; clear BK101; clear BK113; clear BK118; clear BK125; clear HB; have HO_114000 := n0_; have HO_119000 := n1_; have HO_126000 := n2_; have HO140 := n3_; have BK101 := n4_; have BK113 := n5_; have BK118 := n6_; have BK125 := n7_; have HB := n8_; clear n0_ n1_ n2_ n3_ n4_ n5_ n6_ n7_ n8_; (try clear hb); (try clear hb2); (try clear hk); (try clear hi); (try clear ho0); obtain ⟨Ao134, co134, eo134⟩ := Kd.R_slice HO140.out; subst eo134) | ((with_reducible refine gate_callee (f := 31) rfl ?_); refine goesL_ (some 96) rfl rfl Try.func31 (by kernel_rfl) rfl #[.agg #[.slice Ao134 t138.length co134, .int .i64 t141], .int .i64 a1] rfl (by (try simp only [List.map_toArray, List.map_cons, List.map_nil]); first | done | rfl | (simp only [List.length_drop, List.length_take]; rfl)) ?_; (with_reducible refine (impl_RoundsOf.calls kj69 _ _ t138 t141 a1 t142 t145 t146 t147 _ ?side1 ?side2 A121.out).mono ?_); (case side1 => repeat (first | exact (Kd.R_reads' HO140.out).2.2 | (with_reducible refine Kd.C_alloc ?_ _) | (with_reducible refine Kd.C_drewN ?_ _) | (with_reducible refine Kd.C_drew ?_))); (case side2 => exact (Kd.R_reads' HO140.out).2.1); rintro e w135 ⟨v143, rfl, ho0, hb⟩; refine ⟨_, rfl, ?_⟩; have n0_ := Aside0.mk (Kd.R_elder' (by (with_reducible repeat (first | apply Kd.R_alloc | apply Kd.R_drewN | apply Kd.R_drew)); exact HO_114000.out) (Kd.R_base ho0) hb); have n1_ := Aside0.mk (Kd.R_elder' (by (with_reducible repeat (first | apply Kd.R_alloc | apply Kd.R_drewN | apply Kd.R_drew)); exact HO_119000.out) (Kd.R_base ho0) hb); have n2_ := Aside0.mk (Kd.R_elder' (by (with_reducible repeat (first | apply Kd.R_alloc | apply Kd.R_drewN | apply Kd.R_drew)); exact HO_126000.out) (Kd.R_base ho0) hb); have n3_ := Aside0.mk (Kd.R_elder' (by (with_reducible repeat (first | apply Kd.R_alloc | apply Kd.R_drewN | apply Kd.R_drew)); exact HO140.out) (Kd.R_base ho0) hb); have n4_ := Aside0.mk (Kd.R_lower (Kd.R_new' (Kd.R_new' (Kd.R_new' (Kd.R_new' ho0 (Kd.R_lt (by (with_reducible repeat (first | apply Kd.R_alloc | apply Kd.R_drewN | apply Kd.R_drew)); exact HO_114000.out))) (Kd.R_lt (by (with_reducible repeat (first | apply Kd.R_alloc | apply Kd.R_drewN | apply Kd.R_drew)); exact HO_119000.out))) (Kd.R_lt (by (with_reducible repeat (first | apply Kd.R_alloc | apply Kd.R_drewN | apply Kd.R_drew)); exact HO_126000.out))) (Kd.R_lt (by (with_reducible repeat (first | apply Kd.R_alloc | apply Kd.R_drewN | apply Kd.R_drew)); exact HO140.out))) (below_size (by repeat (first | (with_reducible first | exact HB.out | apply below_alloc | apply pw_below_drewN | apply below_drew1 | refine below_set ?_ GE101.out | refine below_set ?_ GE113.out | refine below_set ?_ GE118.out | refine below_set ?_ GE125.out) | exact HB.out)))); have n5_ := Aside0.mk (blk_below (g := gb101) (o := .cells #[.slice A0_0 l0_0.length c0_0, .int .i64 a0_1] 24 (0, 0)) (by (with_reducible repeat first | apply blk_drewN | apply blk_drew | apply blk_alloc); exact BK101.out) hb); have n6_ := Aside0.mk (blk_below (g := gb113) (o := .cells #[.slice Ao21 t107.length co21, .int .i64 t110] 27 (0, 0)) (by (with_reducible repeat first | apply blk_drewN | apply blk_drew | apply blk_alloc); exact BK113.out) hb); have n7_ := Aside0.mk (blk_below (g := gb118) (o := .cells #[.slice Ao27 t133.length co27, .int .i64 t117] 27 (0, 0)) (by (with_reducible repeat first | apply blk_drewN | apply blk_drew | apply blk_alloc); exact BK118.out) hb); have n8_ := Aside0.mk (blk_below (g := gb125) (o := .cells #[.slice Ao33 t119.length co33, .int .i64 t122] 27 (0, 0)) (by (with_reducible repeat first | apply blk_drewN | apply blk_drew | apply blk_alloc); exact BK125.out) hb); have n9_ := Aside0.mk (below_step (by repeat (first | (with_reducible first | exact HB.out | apply below_alloc | apply pw_below_drewN | apply below_drew1 | refine below_set ?_ GE101.out | refine below_set ?_ GE113.out | refine below_set ?_ GE118.out | refine below_set ?_ GE125.out) | exact HB.out)) hb); clear HO_114000; clear HO_119000; clear HO_126000; clear HO140; clear BK101; clear BK113; clear BK118; clear BK125; clear HB; have HO_114000 := n0_; have HO_119000 := n1_; have HO_126000 := n2_; have HO140 := n3_; have HO144 := n4_; have BK101 := n5_; have BK113 := n6_; have BK118 := n7_; have BK125 := n8_; have HB := n9_; clear n0_ n1_ n2_ n3_ n4_ n5_ n6_ n7_ n8_ n9_; (try clear hb); (try clear hb2); (try clear hk); (try clear hi); (try clear ho0)) | ((with_reducible refine gate_dst (N := 16) rfl ?_); refine box_event ?hg (N := 16) ?hd (cs := #[.slice none 0 0, .int .i64 0]) (t := 27) ?hr ?_; (case hd => rfl); (case hg => rfl); (case hr => first | (go_simp; done) | (go_simp; rfl)); intro gb148 hg w136 hbox hb; have n0_ := Aside0.mk (Kd.R_below (by (with_reducible repeat (first | apply Kd.R_alloc | apply Kd.R_drewN | apply Kd.R_drew)); exact HO_114000.out) hb); have n1_ := Aside0.mk (Kd.R_below (by (with_reducible repeat (first | apply Kd.R_alloc | apply Kd.R_drewN | apply Kd.R_drew)); exact HO_119000.out) hb); have n2_ := Aside0.mk (Kd.R_below (by (with_reducible repeat (first | apply Kd.R_alloc | apply Kd.R_drewN | apply Kd.R_drew)); exact HO_126000.out) hb); have n3_ := Aside0.mk (Kd.R_below (by (with_reducible repeat (first | apply Kd.R_alloc | apply Kd.R_drewN | apply Kd.R_drew)); exact HO140.out) hb); have n4_ := Aside0.mk (Kd.R_below (by (with_reducible repeat (first | apply Kd.R_alloc | apply Kd.R_drewN | apply Kd.R_drew)); exact HO144.out) hb); have n5_ := Aside0.mk (blk_below (g := gb101) (o := .cells #[.slice A0_0 l0_0.length c0_0, .int .i64 a0_1] 24 (0, 0)) (by (with_reducible repeat first | apply blk_drewN | apply blk_drew | apply blk_alloc); exact BK101.out) hb); have n6_ := Aside0.mk (blk_below (g := gb113) (o := .cells #[.slice Ao21 t107.length co21, .int .i64 t110] 27 (0, 0)) (by (with_reducible repeat first | apply blk_drewN | apply blk_drew | apply blk_alloc); exact BK113.out) hb); have n7_ := Aside0.mk (blk_below (g := gb118) (o := .cells #[.slice Ao27 t133.length co27, .int .i64 t117] 27 (0, 0)) (by (with_reducible repeat first | apply blk_drewN | apply blk_drew | apply blk_alloc); exact BK118.out) hb); have n8_ := Aside0.mk (blk_below (g := gb125) (o := .cells #[.slice Ao33 t119.length co33, .int .i64 t122] 27 (0, 0)) (by (with_reducible repeat first | apply blk_drewN | apply blk_drew | apply blk_alloc); exact BK125.out) hb); have n9_ := Aside0.mk (below_step (by repeat (first | (with_reducible first | exact HB.out | apply below_alloc | apply pw_below_drewN | apply below_drew1 | refine below_set ?_ GE101.out | refine below_set ?_ GE113.out | refine below_set ?_ GE118.out | refine below_set ?_ GE125.out) | exact HB.out)) hb); have n10_ := Aside0.mk (hbox); have n11_ := Aside0.mk ((by rw [hg]; exact (below_size (by repeat (first | (with_reducible first | exact HB.out | apply below_alloc | apply pw_below_drewN | apply below_drew1 | refine below_set ?_ GE101.out | refine below_set ?_ GE113.out | refine below_set ?_ GE118.out | refine below_set ?_ GE125.out) | exact HB.out))) : w.heap.size ≤ gb148)); have n12_ := Aside0.mk ((by rw [hg]; exact (below_size (by repeat (first | (with_reducible first | exact HB.out | apply below_alloc | apply pw_below_drewN | apply below_drew1 | refine below_set ?_ GE101.out | refine below_set ?_ GE113.out | refine below_set ?_ GE118.out | refine below_set ?_ GE125.out) | exact HB.out))) : w.heap.size ≤ gb148)); have n13_ := Aside0.mk ((by rw [hg]; exact Nat.ne_of_lt (blk_lt (g := gb101) (o := .cells #[.slice A0_0 l0_0.length c0_0, .int .i64 a0_1] 24 (0, 0)) (by (with_reducible repeat first | apply blk_drewN | apply blk_drew | apply blk_alloc); exact BK101.out)) : gb101 ≠ gb148)); have n14_ := Aside0.mk ((by rw [hg]; exact Nat.ne_of_gt (blk_lt (g := gb101) (o := .cells #[.slice A0_0 l0_0.length c0_0, .int .i64 a0_1] 24 (0, 0)) (by (with_reducible repeat first | apply blk_drewN | apply blk_drew | apply blk_alloc); exact BK101.out)) : gb148 ≠ gb101)); have n15_ := Aside0.mk ((by rw [hg]; exact Nat.ne_of_lt (blk_lt (g := gb113) (o := .cells #[.slice Ao21 t107.length co21, .int .i64 t110] 27 (0, 0)) (by (with_reducible repeat first | apply blk_drewN | apply blk_drew | apply blk_alloc); exact BK113.out)) : gb113 ≠ gb148)); have n16_ := Aside0.mk ((by rw [hg]; exact Nat.ne_of_gt (blk_lt (g := gb113) (o := .cells #[.slice Ao21 t107.length co21, .int .i64 t110] 27 (0, 0)) (by (with_reducible repeat first | apply blk_drewN | apply blk_drew | apply blk_alloc); exact BK113.out)) : gb148 ≠ gb113)); have n17_ := Aside0.mk ((by rw [hg]; exact Nat.ne_of_lt (blk_lt (g := gb118) (o := .cells #[.slice Ao27 t133.length co27, .int .i64 t117] 27 (0, 0)) (by (with_reducible repeat first | apply blk_drewN | apply blk_drew | apply blk_alloc); exact BK118.out)) : gb118 ≠ gb148)); have n18_ := Aside0.mk ((by rw [hg]; exact Nat.ne_of_gt (blk_lt (g := gb118) (o := .cells #[.slice Ao27 t133.length co27, .int .i64 t117] 27 (0, 0)) (by (with_reducible repeat first | apply blk_drewN | apply blk_drew | apply blk_alloc); exact BK118.out)) : gb148 ≠ gb118)); have n19_ := Aside0.mk ((by rw [hg]; exact Nat.ne_of_lt (blk_lt (g := gb125) (o := .cells #[.slice Ao33 t119.length co33, .int .i64 t122] 27 (0, 0)) (by (with_reducible repeat first | apply blk_drewN | apply blk_drew | apply blk_alloc); exact BK125.out)) : gb125 ≠ gb148)); have n20_ := Aside0.mk ((by rw [hg]; exact Nat.ne_of_gt (blk_lt (g := gb125) (o := .cells #[.slice Ao33 t119.length co33, .int .i64 t122] 27 (0, 0)) (by (with_reducible repeat first | apply blk_drewN | apply blk_drew | apply blk_alloc); exact BK125.out)) : gb148 ≠ gb125)); clear HO_114000; clear HO_119000; clear HO_126000; clear HO140; clear HO144; clear BK101; clear BK113; clear BK118; clear BK125; clear HB; have HO_114000 := n0_; have HO_119000 := n1_; have HO_126000 := n2_; have HO140 := n3_; have HO144 := n4_; have BK101 := n5_; have BK113 := n6_; have BK118 := n7_; have BK125 := n8_; have HB := n9_; have BK148 := n10_; have GW148 := n11_; have GE148 := n12_; have NB101_148 := n13_; have NB148_101 := n14_; have NB113_148 := n15_; have NB148_113 := n16_; have NB118_148 := n17_; have NB148_118 := n18_; have NB125_148 := n19_; have NB148_125 := n20_; clear n0_ n1_ n2_ n3_ n4_ n5_ n6_ n7_ n8_ n9_ n10_ n11_ n12_ n13_ n14_ n15_ n16_ n17_ n18_ n19_ n20_; clear hb hbox hg; obtain ⟨Ao137, co137, eo137⟩ := Kd.R_slice HO144.out; subst eo137; have hnb138 := NB148_101.out; have hnc138 := NB101_148.out; have hnb139 := NB148_113.out; have hnc139 := NB113_148.out; have hnb140 := NB148_118.out; have hnc140 := NB118_148.out; have hnb141 := NB148_125.out; have hnc141 := NB125_148.out; have hcz142_0 : w136.cell? ⟨gb148, 0, none⟩ = some (.slice none 0 0) := (blk_cell BK148.out 0).trans rfl; have hcz142_1 : w136.cell? ⟨gb148, 1, none⟩ = some (.int .i64 0) := (blk_cell BK148.out 1).trans rfl; have hfz142_0 := blk_frozen BK148.out 0; have hfz142_1 := blk_frozen BK148.out 1))
                      (try simp only [Act.put, List.setIfInBounds_toArray, List.set_cons_zero, List.set_cons_succ])
                      go_cut [113] (fun v113 wc => ∃ (kq : Nat) (x113_121 : Bool), v113 = .bool x113_121 ∧ Aside0 (laws_FnExactRoundsOf.j2 kq t135 x113_121 t136 t122 = some r) ∧ Aside0 (kq ≤ kj69) ∧ Aside0 (Kd.R (Kd.int .i64) 3 wc w.heap.size (fun k_ => some k_ ≠ ((.slice Ao27 t133.length co27) : Value).ownBlock ∧ some k_ ≠ ((.slice Ao33 t119.length co33) : Value).ownBlock ∧ some k_ ≠ ((.slice Ao137 t142.length co137) : Value).ownBlock) (.slice Ao21 t107.length co21) t107) ∧ Aside0 (Kd.R (Kd.int .i64) 3 wc w.heap.size (fun k_ => some k_ ≠ ((.slice Ao21 t107.length co21) : Value).ownBlock ∧ some k_ ≠ ((.slice Ao33 t119.length co33) : Value).ownBlock ∧ some k_ ≠ ((.slice Ao137 t142.length co137) : Value).ownBlock) (.slice Ao27 t133.length co27) t133) ∧ Aside0 (Kd.R (Kd.int .i64) 3 wc w.heap.size (fun k_ => some k_ ≠ ((.slice Ao21 t107.length co21) : Value).ownBlock ∧ some k_ ≠ ((.slice Ao27 t133.length co27) : Value).ownBlock ∧ some k_ ≠ ((.slice Ao137 t142.length co137) : Value).ownBlock) (.slice Ao33 t119.length co33) t136) ∧ Aside0 (Kd.R (Kd.int .i64) 3 wc w.heap.size (fun k_ => some k_ ≠ ((.slice Ao21 t107.length co21) : Value).ownBlock ∧ some k_ ≠ ((.slice Ao27 t133.length co27) : Value).ownBlock ∧ some k_ ≠ ((.slice Ao33 t119.length co33) : Value).ownBlock) (.slice Ao137 t142.length co137) t142) ∧ Aside0 (wc.heap[gb101]? = some (.cells #[(.slice A0_0 l0_0.length c0_0), .int .i64 a0_1] 24 (0, 0))) ∧ Aside0 (wc.heap[gb113]? = some (.cells #[(.slice Ao21 t107.length co21), .int .i64 t110] 27 (0, 0))) ∧ Aside0 (wc.heap[gb118]? = some (.cells #[(.slice Ao27 t133.length co27), .int .i64 t117] 27 (0, 0))) ∧ Aside0 (wc.heap[gb125]? = some (.cells #[(.slice Ao33 t119.length co33), .int .i64 t122] 27 (0, 0))) ∧ Aside0 (wc.heap[gb148]? = some (.cells #[(.slice Ao137 t142.length co137), .int .i64 t145] 27 (0, 0))) ∧ Aside0 (Below w.heap.size w wc))
                      case first =>
                        have H := HC122.out
                        clear HC122
                        replace H := Option.bind_eq_some_iff.mp H
                        obtain ⟨t149, A1430, H⟩ := H
                        replace H : (if t149 = true then (if t146 = t111 then (laws_FnExactRoundsOf.j2 kj69 t135 (t147 != t112) t136 t122) else (laws_FnExactRoundsOf.j2 kj69 t135 true t136 t122)) else (laws_FnExactRoundsOf.j2 kj69 t135 true t136 t122)) = some r := H
                        have A143 := Aside0.mk A1430
                        clear A1430
                        by_cases c144 : t149 = true
                        · subst c144
                          have H1 : (if t146 = t111 then (laws_FnExactRoundsOf.j2 kj69 t135 (t147 != t112) t136 t122) else (laws_FnExactRoundsOf.j2 kj69 t135 true t136 t122)) = some r := by rw [if_pos rfl] at H; exact H
                          clear H
                          have H := H1
                          clear H1
                          by_cases c145 : t146 = t111
                          · rw [if_pos c145] at H
                            have c145b0 : (t146 == t111) = true := beq_iff_eq.mpr c145
                            have c145b1 : (t146 != t111) = false := bne_eq_false_iff_eq.mpr c145
                            clear c145
                            (first | rw [c145b0] | (simp only [i64_w, i32_w]; rw [c145b0]) | skip)
                            have H' := Aside0.mk H
                            clear H
                            have hnb146 := NB148_101.out
                            have hnc146 := NB101_148.out
                            have hnb147 := NB148_113.out
                            have hnc147 := NB113_148.out
                            have hnb148 := NB148_118.out
                            have hnc148 := NB118_148.out
                            have hnb149 := NB148_125.out
                            have hnc149 := NB125_148.out
                            have hcz150_0 : w136.cell? ⟨gb148, 0, none⟩ = some (.slice none 0 0) := (blk_cell BK148.out 0).trans rfl
                            have hcz150_1 : w136.cell? ⟨gb148, 1, none⟩ = some (.int .i64 0) := (blk_cell BK148.out 1).trans rfl
                            have hfz150_0 := blk_frozen BK148.out 0
                            have hfz150_1 := blk_frozen BK148.out 1
                            have hnb151 := NB113_101.out
                            have hnc151 := NB101_113.out
                            have hnb152 := NB113_118.out
                            have hnc152 := NB118_113.out
                            have hnb153 := NB113_125.out
                            have hnc153 := NB125_113.out
                            have hcz154_0 : w136.cell? ⟨gb113, 0, none⟩ = some (.slice Ao21 t107.length co21) := (blk_cell BK113.out 0).trans rfl
                            have hcz154_1 : w136.cell? ⟨gb113, 1, none⟩ = some (.int .i64 t110) := (blk_cell BK113.out 1).trans rfl
                            have hfz154_0 := blk_frozen BK113.out 0
                            have hfz154_1 := blk_frozen BK113.out 1
                            go_wp2_with (first | ((with_reducible refine gate_callee (f := 15) rfl ?_); refine goesL_ (some 102) rfl rfl Try.func15 (by kernel_rfl) rfl #[.agg #[.slice Ao137 t142.length co137, .int .i64 t145], .agg #[.slice Ao21 t107.length co21, .int .i64 t110]] rfl (by (try simp only [List.map_toArray, List.map_cons, List.map_nil]); first | done | rfl | (simp only [List.length_drop, List.length_take]; rfl)) ?_; (with_reducible refine (laws_eqShares.calls kj69 _ _ t142 t145 _ _ t107 t110 true _ ?side1 ?side2 ?side3 ?side4 A143.out).mono ?_); (case side1 => refine (Kd.R_reads' (e := 3) (base := w.heap.size) (ok := fun k_ => ((((True ∧ some k_ ≠ (.slice Ao21 t107.length co21 : Value).ownBlock) ∧ some k_ ≠ (.slice Ao27 t133.length co27 : Value).ownBlock) ∧ some k_ ≠ (.slice Ao33 t119.length co33 : Value).ownBlock) ∧ some k_ ≠ (.slice Ao134 t138.length co134 : Value).ownBlock)) (n := t142.length) (c := co137) ?_).2.2; exact (by (with_reducible repeat (first | apply Kd.R_alloc | apply Kd.R_drewN | apply Kd.R_drew)); exact (Kd.R_mono (Kd.R_far (p := ⟨gb148, 1, none⟩) (Kd.R_far (p := ⟨gb148, 0, none⟩) (Kd.R_types HO144.out BK148.out (by decide)) (fun _ hk => hk.2) (.slice Ao137 t142.length co137)) (fun _ hk => hk.2) (.int .i64 t145)) (fun _ h_ => h_.1)))); (case side2 => exact (Kd.R_reads' HO144.out).2.1); (case side3 => refine (Kd.R_reads' (e := 3) (base := w.heap.size) (ok := fun k_ => (((some k_ ≠ (.slice Ao27 t133.length co27 : Value).ownBlock ∧ some k_ ≠ (.slice Ao33 t119.length co33 : Value).ownBlock) ∧ some k_ ≠ (.slice Ao134 t138.length co134 : Value).ownBlock) ∧ some k_ ≠ (.slice Ao137 t142.length co137 : Value).ownBlock)) (n := t107.length) (c := co21) ?_).2.2; exact (by (with_reducible repeat (first | apply Kd.R_alloc | apply Kd.R_drewN | apply Kd.R_drew)); exact (Kd.R_mono (Kd.R_far (p := ⟨gb148, 1, none⟩) (Kd.R_far (p := ⟨gb148, 0, none⟩) (Kd.R_types HO_114000.out BK148.out (by decide)) (fun _ hk => hk.2) (.slice Ao137 t142.length co137)) (fun _ hk => hk.2) (.int .i64 t145)) (fun _ h_ => h_.1)))); (case side4 => exact (Kd.R_reads' HO_114000.out).2.1); rintro e w155 ⟨rfl, hb⟩; refine ⟨_, rfl, ?_⟩; have n0_ := Aside0.mk (Kd.R_below (by (with_reducible repeat (first | apply Kd.R_alloc | apply Kd.R_drewN | apply Kd.R_drew)); exact (Kd.R_mono (Kd.R_far (p := ⟨gb148, 1, none⟩) (Kd.R_far (p := ⟨gb148, 0, none⟩) (Kd.R_types HO_114000.out BK148.out (by decide)) (fun _ hk => hk.2) (.slice Ao137 t142.length co137)) (fun _ hk => hk.2) (.int .i64 t145)) (fun _ h_ => h_.1))) hb); have n1_ := Aside0.mk (Kd.R_below (by (with_reducible repeat (first | apply Kd.R_alloc | apply Kd.R_drewN | apply Kd.R_drew)); exact (Kd.R_mono (Kd.R_far (p := ⟨gb148, 1, none⟩) (Kd.R_far (p := ⟨gb148, 0, none⟩) (Kd.R_types HO_119000.out BK148.out (by decide)) (fun _ hk => hk.2) (.slice Ao137 t142.length co137)) (fun _ hk => hk.2) (.int .i64 t145)) (fun _ h_ => h_.1))) hb); have n2_ := Aside0.mk (Kd.R_below (by (with_reducible repeat (first | apply Kd.R_alloc | apply Kd.R_drewN | apply Kd.R_drew)); exact (Kd.R_mono (Kd.R_far (p := ⟨gb148, 1, none⟩) (Kd.R_far (p := ⟨gb148, 0, none⟩) (Kd.R_types HO_126000.out BK148.out (by decide)) (fun _ hk => hk.2) (.slice Ao137 t142.length co137)) (fun _ hk => hk.2) (.int .i64 t145)) (fun _ h_ => h_.1))) hb); have n3_ := Aside0.mk (Kd.R_below (by (with_reducible repeat (first | apply Kd.R_alloc | apply Kd.R_drewN | apply Kd.R_drew)); exact (Kd.R_mono (Kd.R_far (p := ⟨gb148, 1, none⟩) (Kd.R_far (p := ⟨gb148, 0, none⟩) (Kd.R_types HO140.out BK148.out (by decide)) (fun _ hk => hk.2) (.slice Ao137 t142.length co137)) (fun _ hk => hk.2) (.int .i64 t145)) (fun _ h_ => h_.1))) hb); have n4_ := Aside0.mk (Kd.R_below (by (with_reducible repeat (first | apply Kd.R_alloc | apply Kd.R_drewN | apply Kd.R_drew)); exact (Kd.R_mono (Kd.R_far (p := ⟨gb148, 1, none⟩) (Kd.R_far (p := ⟨gb148, 0, none⟩) (Kd.R_types HO144.out BK148.out (by decide)) (fun _ hk => hk.2) (.slice Ao137 t142.length co137)) (fun _ hk => hk.2) (.int .i64 t145)) (fun _ h_ => h_.1))) hb); have n5_ := Aside0.mk (blk_below (g := gb101) (o := .cells #[.slice A0_0 l0_0.length c0_0, .int .i64 a0_1] 24 (0, 0)) (by (with_reducible repeat first | apply blk_drewN | apply blk_drew | apply blk_alloc); refine blk_far ?_ NB101_148.out _; (with_reducible repeat first | apply blk_drewN | apply blk_drew | apply blk_alloc); refine blk_far ?_ NB101_148.out _; (with_reducible repeat first | apply blk_drewN | apply blk_drew | apply blk_alloc); exact BK101.out) hb); have n6_ := Aside0.mk (blk_below (g := gb113) (o := .cells #[.slice Ao21 t107.length co21, .int .i64 t110] 27 (0, 0)) (by (with_reducible repeat first | apply blk_drewN | apply blk_drew | apply blk_alloc); refine blk_far ?_ NB113_148.out _; (with_reducible repeat first | apply blk_drewN | apply blk_drew | apply blk_alloc); refine blk_far ?_ NB113_148.out _; (with_reducible repeat first | apply blk_drewN | apply blk_drew | apply blk_alloc); exact BK113.out) hb); have n7_ := Aside0.mk (blk_below (g := gb118) (o := .cells #[.slice Ao27 t133.length co27, .int .i64 t117] 27 (0, 0)) (by (with_reducible repeat first | apply blk_drewN | apply blk_drew | apply blk_alloc); refine blk_far ?_ NB118_148.out _; (with_reducible repeat first | apply blk_drewN | apply blk_drew | apply blk_alloc); refine blk_far ?_ NB118_148.out _; (with_reducible repeat first | apply blk_drewN | apply blk_drew | apply blk_alloc); exact BK118.out) hb); have n8_ := Aside0.mk (blk_below (g := gb125) (o := .cells #[.slice Ao33 t119.length co33, .int .i64 t122] 27 (0, 0)) (by (with_reducible repeat first | apply blk_drewN | apply blk_drew | apply blk_alloc); refine blk_far ?_ NB125_148.out _; (with_reducible repeat first | apply blk_drewN | apply blk_drew | apply blk_alloc); refine blk_far ?_ NB125_148.out _; (with_reducible repeat first | apply blk_drewN | apply blk_drew | apply blk_alloc); exact BK125.out) hb); have n9_ := Aside0.mk (blk_below (g := gb148) (o := .cells #[.slice Ao137 t142.length co137, .int .i64 t145] 27 (0, 0)) (by (with_reducible repeat first | apply blk_drewN | apply blk_drew | apply blk_alloc); refine blk_put (cs := #[.slice Ao137 t142.length co137, .int .i64 0]) ?_ 1 _ rfl; (with_reducible repeat first | apply blk_drewN | apply blk_drew | apply blk_alloc); refine blk_put (cs := #[.slice none 0 0, .int .i64 0]) ?_ 0 _ rfl; (with_reducible repeat first | apply blk_drewN | apply blk_drew | apply blk_alloc); exact BK148.out) hb); have n10_ := Aside0.mk (below_step (by repeat (first | (with_reducible first | exact HB.out | apply below_alloc | apply pw_below_drewN | apply below_drew1 | refine below_set ?_ GE101.out | refine below_set ?_ GE113.out | refine below_set ?_ GE118.out | refine below_set ?_ GE125.out | refine below_set ?_ GE148.out) | exact HB.out)) hb); clear HO_114000; clear HO_119000; clear HO_126000; clear HO140; clear HO144; clear BK101; clear BK113; clear BK118; clear BK125; clear BK148; clear HB; have HO_114000 := n0_; have HO_119000 := n1_; have HO_126000 := n2_; have HO140 := n3_; have HO144 := n4_; have BK101 := n5_; have BK113 := n6_; have BK118 := n7_; have BK125 := n8_; have BK148 := n9_; have HB := n10_; clear n0_ n1_ n2_ n3_ n4_ n5_ n6_ n7_ n8_ n9_ n10_; (try clear hb); (try clear hb2); (try clear hk); (try clear hi)))
                            go_meet
                            case rel => exact ⟨_, ((t147 != t112)), (by first | rfl | (simp; done) | (simp [*]; done)), H', ⟨by have := HJ11.out; have := HJ69.out; first | omega | exact Nat.le_refl _⟩, ⟨by (try simp only [hl119000_69]); (with_reducible repeat (first | apply Kd.R_alloc | apply Kd.R_drewN | apply Kd.R_drew)); exact Kd.R_mono HO_114000.out (fun _ hk => ⟨hk.1.1.1, ⟨hk.1.1.2, hk.2⟩⟩)⟩, ⟨by (try simp only [hl119000_69]); (with_reducible repeat (first | apply Kd.R_alloc | apply Kd.R_drewN | apply Kd.R_drew)); exact Kd.R_mono HO_119000.out (fun _ hk => ⟨hk.1.1.1, ⟨hk.1.1.2, hk.2⟩⟩)⟩, ⟨by (try simp only [hl119000_69]); (with_reducible repeat (first | apply Kd.R_alloc | apply Kd.R_drewN | apply Kd.R_drew)); exact Kd.R_mono HO_126000.out (fun _ hk => ⟨hk.1.1.1, ⟨hk.1.1.2, hk.2⟩⟩)⟩, ⟨by (try simp only [hl119000_69]); (with_reducible repeat (first | apply Kd.R_alloc | apply Kd.R_drewN | apply Kd.R_drew)); exact Kd.R_mono HO144.out (fun _ hk => ⟨hk.1.1.1.2, ⟨hk.1.1.2, hk.1.2⟩⟩)⟩, ⟨by (try simp only [hl119000_69]); (with_reducible repeat first | apply blk_drewN | apply blk_drew | apply blk_alloc); exact BK101.out⟩, ⟨by (try simp only [hl119000_69]); (with_reducible repeat first | apply blk_drewN | apply blk_drew | apply blk_alloc); exact BK113.out⟩, ⟨by (try simp only [hl119000_69]); (with_reducible repeat first | apply blk_drewN | apply blk_drew | apply blk_alloc); exact BK118.out⟩, ⟨by (try simp only [hl119000_69]); (with_reducible repeat first | apply blk_drewN | apply blk_drew | apply blk_alloc); exact BK125.out⟩, ⟨by (try simp only [hl119000_69]); (with_reducible repeat first | apply blk_drewN | apply blk_drew | apply blk_alloc); exact BK148.out⟩, ⟨by repeat (first | (with_reducible first | exact HB.out | apply below_alloc | apply pw_below_drewN | apply below_drew1 | refine below_set ?_ GE101.out | refine below_set ?_ GE113.out | refine below_set ?_ GE118.out | refine below_set ?_ GE125.out | refine below_set ?_ GE148.out) | exact HB.out)⟩⟩
                          · rw [if_neg c145] at H
                            have c145b0 : (t146 == t111) = false := beq_eq_false_iff_ne.mpr c145
                            have c145b1 : (t146 != t111) = true := bne_iff_ne.mpr c145
                            (first | rw [c145b0] | (simp only [i64_w, i32_w]; rw [c145b0]) | skip)
                            have H' := Aside0.mk H
                            clear H
                            have hnb156 := NB148_101.out
                            have hnc156 := NB101_148.out
                            have hnb157 := NB148_113.out
                            have hnc157 := NB113_148.out
                            have hnb158 := NB148_118.out
                            have hnc158 := NB118_148.out
                            have hnb159 := NB148_125.out
                            have hnc159 := NB125_148.out
                            have hcz160_0 : w136.cell? ⟨gb148, 0, none⟩ = some (.slice none 0 0) := (blk_cell BK148.out 0).trans rfl
                            have hcz160_1 : w136.cell? ⟨gb148, 1, none⟩ = some (.int .i64 0) := (blk_cell BK148.out 1).trans rfl
                            have hfz160_0 := blk_frozen BK148.out 0
                            have hfz160_1 := blk_frozen BK148.out 1
                            have hnb161 := NB113_101.out
                            have hnc161 := NB101_113.out
                            have hnb162 := NB113_118.out
                            have hnc162 := NB118_113.out
                            have hnb163 := NB113_125.out
                            have hnc163 := NB125_113.out
                            have hcz164_0 : w136.cell? ⟨gb113, 0, none⟩ = some (.slice Ao21 t107.length co21) := (blk_cell BK113.out 0).trans rfl
                            have hcz164_1 : w136.cell? ⟨gb113, 1, none⟩ = some (.int .i64 t110) := (blk_cell BK113.out 1).trans rfl
                            have hfz164_0 := blk_frozen BK113.out 0
                            have hfz164_1 := blk_frozen BK113.out 1
                            go_wp2_with (first | ((with_reducible refine gate_callee (f := 15) rfl ?_); refine goesL_ (some 102) rfl rfl Try.func15 (by kernel_rfl) rfl #[.agg #[.slice Ao137 t142.length co137, .int .i64 t145], .agg #[.slice Ao21 t107.length co21, .int .i64 t110]] rfl (by (try simp only [List.map_toArray, List.map_cons, List.map_nil]); first | done | rfl | (simp only [List.length_drop, List.length_take]; rfl)) ?_; (with_reducible refine (laws_eqShares.calls kj69 _ _ t142 t145 _ _ t107 t110 true _ ?side1 ?side2 ?side3 ?side4 A143.out).mono ?_); (case side1 => refine (Kd.R_reads' (e := 3) (base := w.heap.size) (ok := fun k_ => ((((True ∧ some k_ ≠ (.slice Ao21 t107.length co21 : Value).ownBlock) ∧ some k_ ≠ (.slice Ao27 t133.length co27 : Value).ownBlock) ∧ some k_ ≠ (.slice Ao33 t119.length co33 : Value).ownBlock) ∧ some k_ ≠ (.slice Ao134 t138.length co134 : Value).ownBlock)) (n := t142.length) (c := co137) ?_).2.2; exact (by (with_reducible repeat (first | apply Kd.R_alloc | apply Kd.R_drewN | apply Kd.R_drew)); exact (Kd.R_mono (Kd.R_far (p := ⟨gb148, 1, none⟩) (Kd.R_far (p := ⟨gb148, 0, none⟩) (Kd.R_types HO144.out BK148.out (by decide)) (fun _ hk => hk.2) (.slice Ao137 t142.length co137)) (fun _ hk => hk.2) (.int .i64 t145)) (fun _ h_ => h_.1)))); (case side2 => exact (Kd.R_reads' HO144.out).2.1); (case side3 => refine (Kd.R_reads' (e := 3) (base := w.heap.size) (ok := fun k_ => (((some k_ ≠ (.slice Ao27 t133.length co27 : Value).ownBlock ∧ some k_ ≠ (.slice Ao33 t119.length co33 : Value).ownBlock) ∧ some k_ ≠ (.slice Ao134 t138.length co134 : Value).ownBlock) ∧ some k_ ≠ (.slice Ao137 t142.length co137 : Value).ownBlock)) (n := t107.length) (c := co21) ?_).2.2; exact (by (with_reducible repeat (first | apply Kd.R_alloc | apply Kd.R_drewN | apply Kd.R_drew)); exact (Kd.R_mono (Kd.R_far (p := ⟨gb148, 1, none⟩) (Kd.R_far (p := ⟨gb148, 0, none⟩) (Kd.R_types HO_114000.out BK148.out (by decide)) (fun _ hk => hk.2) (.slice Ao137 t142.length co137)) (fun _ hk => hk.2) (.int .i64 t145)) (fun _ h_ => h_.1)))); (case side4 => exact (Kd.R_reads' HO_114000.out).2.1); rintro e w165 ⟨rfl, hb⟩; refine ⟨_, rfl, ?_⟩; have n0_ := Aside0.mk (Kd.R_below (by (with_reducible repeat (first | apply Kd.R_alloc | apply Kd.R_drewN | apply Kd.R_drew)); exact (Kd.R_mono (Kd.R_far (p := ⟨gb148, 1, none⟩) (Kd.R_far (p := ⟨gb148, 0, none⟩) (Kd.R_types HO_114000.out BK148.out (by decide)) (fun _ hk => hk.2) (.slice Ao137 t142.length co137)) (fun _ hk => hk.2) (.int .i64 t145)) (fun _ h_ => h_.1))) hb); have n1_ := Aside0.mk (Kd.R_below (by (with_reducible repeat (first | apply Kd.R_alloc | apply Kd.R_drewN | apply Kd.R_drew)); exact (Kd.R_mono (Kd.R_far (p := ⟨gb148, 1, none⟩) (Kd.R_far (p := ⟨gb148, 0, none⟩) (Kd.R_types HO_119000.out BK148.out (by decide)) (fun _ hk => hk.2) (.slice Ao137 t142.length co137)) (fun _ hk => hk.2) (.int .i64 t145)) (fun _ h_ => h_.1))) hb); have n2_ := Aside0.mk (Kd.R_below (by (with_reducible repeat (first | apply Kd.R_alloc | apply Kd.R_drewN | apply Kd.R_drew)); exact (Kd.R_mono (Kd.R_far (p := ⟨gb148, 1, none⟩) (Kd.R_far (p := ⟨gb148, 0, none⟩) (Kd.R_types HO_126000.out BK148.out (by decide)) (fun _ hk => hk.2) (.slice Ao137 t142.length co137)) (fun _ hk => hk.2) (.int .i64 t145)) (fun _ h_ => h_.1))) hb); have n3_ := Aside0.mk (Kd.R_below (by (with_reducible repeat (first | apply Kd.R_alloc | apply Kd.R_drewN | apply Kd.R_drew)); exact (Kd.R_mono (Kd.R_far (p := ⟨gb148, 1, none⟩) (Kd.R_far (p := ⟨gb148, 0, none⟩) (Kd.R_types HO140.out BK148.out (by decide)) (fun _ hk => hk.2) (.slice Ao137 t142.length co137)) (fun _ hk => hk.2) (.int .i64 t145)) (fun _ h_ => h_.1))) hb); have n4_ := Aside0.mk (Kd.R_below (by (with_reducible repeat (first | apply Kd.R_alloc | apply Kd.R_drewN | apply Kd.R_drew)); exact (Kd.R_mono (Kd.R_far (p := ⟨gb148, 1, none⟩) (Kd.R_far (p := ⟨gb148, 0, none⟩) (Kd.R_types HO144.out BK148.out (by decide)) (fun _ hk => hk.2) (.slice Ao137 t142.length co137)) (fun _ hk => hk.2) (.int .i64 t145)) (fun _ h_ => h_.1))) hb); have n5_ := Aside0.mk (blk_below (g := gb101) (o := .cells #[.slice A0_0 l0_0.length c0_0, .int .i64 a0_1] 24 (0, 0)) (by (with_reducible repeat first | apply blk_drewN | apply blk_drew | apply blk_alloc); refine blk_far ?_ NB101_148.out _; (with_reducible repeat first | apply blk_drewN | apply blk_drew | apply blk_alloc); refine blk_far ?_ NB101_148.out _; (with_reducible repeat first | apply blk_drewN | apply blk_drew | apply blk_alloc); exact BK101.out) hb); have n6_ := Aside0.mk (blk_below (g := gb113) (o := .cells #[.slice Ao21 t107.length co21, .int .i64 t110] 27 (0, 0)) (by (with_reducible repeat first | apply blk_drewN | apply blk_drew | apply blk_alloc); refine blk_far ?_ NB113_148.out _; (with_reducible repeat first | apply blk_drewN | apply blk_drew | apply blk_alloc); refine blk_far ?_ NB113_148.out _; (with_reducible repeat first | apply blk_drewN | apply blk_drew | apply blk_alloc); exact BK113.out) hb); have n7_ := Aside0.mk (blk_below (g := gb118) (o := .cells #[.slice Ao27 t133.length co27, .int .i64 t117] 27 (0, 0)) (by (with_reducible repeat first | apply blk_drewN | apply blk_drew | apply blk_alloc); refine blk_far ?_ NB118_148.out _; (with_reducible repeat first | apply blk_drewN | apply blk_drew | apply blk_alloc); refine blk_far ?_ NB118_148.out _; (with_reducible repeat first | apply blk_drewN | apply blk_drew | apply blk_alloc); exact BK118.out) hb); have n8_ := Aside0.mk (blk_below (g := gb125) (o := .cells #[.slice Ao33 t119.length co33, .int .i64 t122] 27 (0, 0)) (by (with_reducible repeat first | apply blk_drewN | apply blk_drew | apply blk_alloc); refine blk_far ?_ NB125_148.out _; (with_reducible repeat first | apply blk_drewN | apply blk_drew | apply blk_alloc); refine blk_far ?_ NB125_148.out _; (with_reducible repeat first | apply blk_drewN | apply blk_drew | apply blk_alloc); exact BK125.out) hb); have n9_ := Aside0.mk (blk_below (g := gb148) (o := .cells #[.slice Ao137 t142.length co137, .int .i64 t145] 27 (0, 0)) (by (with_reducible repeat first | apply blk_drewN | apply blk_drew | apply blk_alloc); refine blk_put (cs := #[.slice Ao137 t142.length co137, .int .i64 0]) ?_ 1 _ rfl; (with_reducible repeat first | apply blk_drewN | apply blk_drew | apply blk_alloc); refine blk_put (cs := #[.slice none 0 0, .int .i64 0]) ?_ 0 _ rfl; (with_reducible repeat first | apply blk_drewN | apply blk_drew | apply blk_alloc); exact BK148.out) hb); have n10_ := Aside0.mk (below_step (by repeat (first | (with_reducible first | exact HB.out | apply below_alloc | apply pw_below_drewN | apply below_drew1 | refine below_set ?_ GE101.out | refine below_set ?_ GE113.out | refine below_set ?_ GE118.out | refine below_set ?_ GE125.out | refine below_set ?_ GE148.out) | exact HB.out)) hb); clear HO_114000; clear HO_119000; clear HO_126000; clear HO140; clear HO144; clear BK101; clear BK113; clear BK118; clear BK125; clear BK148; clear HB; have HO_114000 := n0_; have HO_119000 := n1_; have HO_126000 := n2_; have HO140 := n3_; have HO144 := n4_; have BK101 := n5_; have BK113 := n6_; have BK118 := n7_; have BK125 := n8_; have BK148 := n9_; have HB := n10_; clear n0_ n1_ n2_ n3_ n4_ n5_ n6_ n7_ n8_ n9_ n10_; (try clear hb); (try clear hb2); (try clear hk); (try clear hi)))
                            go_meet
                            case rel => exact ⟨_, (true), (by first | rfl | (simp; done) | (simp [*]; done)), H', ⟨by have := HJ11.out; have := HJ69.out; first | omega | exact Nat.le_refl _⟩, ⟨by (try simp only [hl119000_69]); (with_reducible repeat (first | apply Kd.R_alloc | apply Kd.R_drewN | apply Kd.R_drew)); exact Kd.R_mono HO_114000.out (fun _ hk => ⟨hk.1.1.1, ⟨hk.1.1.2, hk.2⟩⟩)⟩, ⟨by (try simp only [hl119000_69]); (with_reducible repeat (first | apply Kd.R_alloc | apply Kd.R_drewN | apply Kd.R_drew)); exact Kd.R_mono HO_119000.out (fun _ hk => ⟨hk.1.1.1, ⟨hk.1.1.2, hk.2⟩⟩)⟩, ⟨by (try simp only [hl119000_69]); (with_reducible repeat (first | apply Kd.R_alloc | apply Kd.R_drewN | apply Kd.R_drew)); exact Kd.R_mono HO_126000.out (fun _ hk => ⟨hk.1.1.1, ⟨hk.1.1.2, hk.2⟩⟩)⟩, ⟨by (try simp only [hl119000_69]); (with_reducible repeat (first | apply Kd.R_alloc | apply Kd.R_drewN | apply Kd.R_drew)); exact Kd.R_mono HO144.out (fun _ hk => ⟨hk.1.1.1.2, ⟨hk.1.1.2, hk.1.2⟩⟩)⟩, ⟨by (try simp only [hl119000_69]); (with_reducible repeat first | apply blk_drewN | apply blk_drew | apply blk_alloc); exact BK101.out⟩, ⟨by (try simp only [hl119000_69]); (with_reducible repeat first | apply blk_drewN | apply blk_drew | apply blk_alloc); exact BK113.out⟩, ⟨by (try simp only [hl119000_69]); (with_reducible repeat first | apply blk_drewN | apply blk_drew | apply blk_alloc); exact BK118.out⟩, ⟨by (try simp only [hl119000_69]); (with_reducible repeat first | apply blk_drewN | apply blk_drew | apply blk_alloc); exact BK125.out⟩, ⟨by (try simp only [hl119000_69]); (with_reducible repeat first | apply blk_drewN | apply blk_drew | apply blk_alloc); exact BK148.out⟩, ⟨by repeat (first | (with_reducible first | exact HB.out | apply below_alloc | apply pw_below_drewN | apply below_drew1 | refine below_set ?_ GE101.out | refine below_set ?_ GE113.out | refine below_set ?_ GE118.out | refine below_set ?_ GE125.out | refine below_set ?_ GE148.out) | exact HB.out)⟩⟩
                        · replace c144 := Bool.eq_false_iff.mpr c144
                          subst c144
                          have H1 : (laws_FnExactRoundsOf.j2 kj69 t135 true t136 t122) = some r := by rw [if_neg (show ¬ (false = true) by decide)] at H; exact H
                          clear H
                          have H := H1
                          clear H1
                          have H' := Aside0.mk H
                          clear H
                          have hnb166 := NB148_101.out
                          have hnc166 := NB101_148.out
                          have hnb167 := NB148_113.out
                          have hnc167 := NB113_148.out
                          have hnb168 := NB148_118.out
                          have hnc168 := NB118_148.out
                          have hnb169 := NB148_125.out
                          have hnc169 := NB125_148.out
                          have hcz170_0 : w136.cell? ⟨gb148, 0, none⟩ = some (.slice none 0 0) := (blk_cell BK148.out 0).trans rfl
                          have hcz170_1 : w136.cell? ⟨gb148, 1, none⟩ = some (.int .i64 0) := (blk_cell BK148.out 1).trans rfl
                          have hfz170_0 := blk_frozen BK148.out 0
                          have hfz170_1 := blk_frozen BK148.out 1
                          have hnb171 := NB113_101.out
                          have hnc171 := NB101_113.out
                          have hnb172 := NB113_118.out
                          have hnc172 := NB118_113.out
                          have hnb173 := NB113_125.out
                          have hnc173 := NB125_113.out
                          have hcz174_0 : w136.cell? ⟨gb113, 0, none⟩ = some (.slice Ao21 t107.length co21) := (blk_cell BK113.out 0).trans rfl
                          have hcz174_1 : w136.cell? ⟨gb113, 1, none⟩ = some (.int .i64 t110) := (blk_cell BK113.out 1).trans rfl
                          have hfz174_0 := blk_frozen BK113.out 0
                          have hfz174_1 := blk_frozen BK113.out 1
                          go_wp2_with (first | ((with_reducible refine gate_callee (f := 15) rfl ?_); refine goesL_ (some 102) rfl rfl Try.func15 (by kernel_rfl) rfl #[.agg #[.slice Ao137 t142.length co137, .int .i64 t145], .agg #[.slice Ao21 t107.length co21, .int .i64 t110]] rfl (by (try simp only [List.map_toArray, List.map_cons, List.map_nil]); first | done | rfl | (simp only [List.length_drop, List.length_take]; rfl)) ?_; (with_reducible refine (laws_eqShares.calls kj69 _ _ t142 t145 _ _ t107 t110 false _ ?side1 ?side2 ?side3 ?side4 A143.out).mono ?_); (case side1 => refine (Kd.R_reads' (e := 3) (base := w.heap.size) (ok := fun k_ => ((((True ∧ some k_ ≠ (.slice Ao21 t107.length co21 : Value).ownBlock) ∧ some k_ ≠ (.slice Ao27 t133.length co27 : Value).ownBlock) ∧ some k_ ≠ (.slice Ao33 t119.length co33 : Value).ownBlock) ∧ some k_ ≠ (.slice Ao134 t138.length co134 : Value).ownBlock)) (n := t142.length) (c := co137) ?_).2.2; exact (by (with_reducible repeat (first | apply Kd.R_alloc | apply Kd.R_drewN | apply Kd.R_drew)); exact (Kd.R_mono (Kd.R_far (p := ⟨gb148, 1, none⟩) (Kd.R_far (p := ⟨gb148, 0, none⟩) (Kd.R_types HO144.out BK148.out (by decide)) (fun _ hk => hk.2) (.slice Ao137 t142.length co137)) (fun _ hk => hk.2) (.int .i64 t145)) (fun _ h_ => h_.1)))); (case side2 => exact (Kd.R_reads' HO144.out).2.1); (case side3 => refine (Kd.R_reads' (e := 3) (base := w.heap.size) (ok := fun k_ => (((some k_ ≠ (.slice Ao27 t133.length co27 : Value).ownBlock ∧ some k_ ≠ (.slice Ao33 t119.length co33 : Value).ownBlock) ∧ some k_ ≠ (.slice Ao134 t138.length co134 : Value).ownBlock) ∧ some k_ ≠ (.slice Ao137 t142.length co137 : Value).ownBlock)) (n := t107.length) (c := co21) ?_).2.2; exact (by (with_reducible repeat (first | apply Kd.R_alloc | apply Kd.R_drewN | apply Kd.R_drew)); exact (Kd.R_mono (Kd.R_far (p := ⟨gb148, 1, none⟩) (Kd.R_far (p := ⟨gb148, 0, none⟩) (Kd.R_types HO_114000.out BK148.out (by decide)) (fun _ hk => hk.2) (.slice Ao137 t142.length co137)) (fun _ hk => hk.2) (.int .i64 t145)) (fun _ h_ => h_.1)))); (case side4 => exact (Kd.R_reads' HO_114000.out).2.1); rintro e w175 ⟨rfl, hb⟩; refine ⟨_, rfl, ?_⟩; have n0_ := Aside0.mk (Kd.R_below (by (with_reducible repeat (first | apply Kd.R_alloc | apply Kd.R_drewN | apply Kd.R_drew)); exact (Kd.R_mono (Kd.R_far (p := ⟨gb148, 1, none⟩) (Kd.R_far (p := ⟨gb148, 0, none⟩) (Kd.R_types HO_114000.out BK148.out (by decide)) (fun _ hk => hk.2) (.slice Ao137 t142.length co137)) (fun _ hk => hk.2) (.int .i64 t145)) (fun _ h_ => h_.1))) hb); have n1_ := Aside0.mk (Kd.R_below (by (with_reducible repeat (first | apply Kd.R_alloc | apply Kd.R_drewN | apply Kd.R_drew)); exact (Kd.R_mono (Kd.R_far (p := ⟨gb148, 1, none⟩) (Kd.R_far (p := ⟨gb148, 0, none⟩) (Kd.R_types HO_119000.out BK148.out (by decide)) (fun _ hk => hk.2) (.slice Ao137 t142.length co137)) (fun _ hk => hk.2) (.int .i64 t145)) (fun _ h_ => h_.1))) hb); have n2_ := Aside0.mk (Kd.R_below (by (with_reducible repeat (first | apply Kd.R_alloc | apply Kd.R_drewN | apply Kd.R_drew)); exact (Kd.R_mono (Kd.R_far (p := ⟨gb148, 1, none⟩) (Kd.R_far (p := ⟨gb148, 0, none⟩) (Kd.R_types HO_126000.out BK148.out (by decide)) (fun _ hk => hk.2) (.slice Ao137 t142.length co137)) (fun _ hk => hk.2) (.int .i64 t145)) (fun _ h_ => h_.1))) hb); have n3_ := Aside0.mk (Kd.R_below (by (with_reducible repeat (first | apply Kd.R_alloc | apply Kd.R_drewN | apply Kd.R_drew)); exact (Kd.R_mono (Kd.R_far (p := ⟨gb148, 1, none⟩) (Kd.R_far (p := ⟨gb148, 0, none⟩) (Kd.R_types HO140.out BK148.out (by decide)) (fun _ hk => hk.2) (.slice Ao137 t142.length co137)) (fun _ hk => hk.2) (.int .i64 t145)) (fun _ h_ => h_.1))) hb); have n4_ := Aside0.mk (Kd.R_below (by (with_reducible repeat (first | apply Kd.R_alloc | apply Kd.R_drewN | apply Kd.R_drew)); exact (Kd.R_mono (Kd.R_far (p := ⟨gb148, 1, none⟩) (Kd.R_far (p := ⟨gb148, 0, none⟩) (Kd.R_types HO144.out BK148.out (by decide)) (fun _ hk => hk.2) (.slice Ao137 t142.length co137)) (fun _ hk => hk.2) (.int .i64 t145)) (fun _ h_ => h_.1))) hb); have n5_ := Aside0.mk (blk_below (g := gb101) (o := .cells #[.slice A0_0 l0_0.length c0_0, .int .i64 a0_1] 24 (0, 0)) (by (with_reducible repeat first | apply blk_drewN | apply blk_drew | apply blk_alloc); refine blk_far ?_ NB101_148.out _; (with_reducible repeat first | apply blk_drewN | apply blk_drew | apply blk_alloc); refine blk_far ?_ NB101_148.out _; (with_reducible repeat first | apply blk_drewN | apply blk_drew | apply blk_alloc); exact BK101.out) hb); have n6_ := Aside0.mk (blk_below (g := gb113) (o := .cells #[.slice Ao21 t107.length co21, .int .i64 t110] 27 (0, 0)) (by (with_reducible repeat first | apply blk_drewN | apply blk_drew | apply blk_alloc); refine blk_far ?_ NB113_148.out _; (with_reducible repeat first | apply blk_drewN | apply blk_drew | apply blk_alloc); refine blk_far ?_ NB113_148.out _; (with_reducible repeat first | apply blk_drewN | apply blk_drew | apply blk_alloc); exact BK113.out) hb); have n7_ := Aside0.mk (blk_below (g := gb118) (o := .cells #[.slice Ao27 t133.length co27, .int .i64 t117] 27 (0, 0)) (by (with_reducible repeat first | apply blk_drewN | apply blk_drew | apply blk_alloc); refine blk_far ?_ NB118_148.out _; (with_reducible repeat first | apply blk_drewN | apply blk_drew | apply blk_alloc); refine blk_far ?_ NB118_148.out _; (with_reducible repeat first | apply blk_drewN | apply blk_drew | apply blk_alloc); exact BK118.out) hb); have n8_ := Aside0.mk (blk_below (g := gb125) (o := .cells #[.slice Ao33 t119.length co33, .int .i64 t122] 27 (0, 0)) (by (with_reducible repeat first | apply blk_drewN | apply blk_drew | apply blk_alloc); refine blk_far ?_ NB125_148.out _; (with_reducible repeat first | apply blk_drewN | apply blk_drew | apply blk_alloc); refine blk_far ?_ NB125_148.out _; (with_reducible repeat first | apply blk_drewN | apply blk_drew | apply blk_alloc); exact BK125.out) hb); have n9_ := Aside0.mk (blk_below (g := gb148) (o := .cells #[.slice Ao137 t142.length co137, .int .i64 t145] 27 (0, 0)) (by (with_reducible repeat first | apply blk_drewN | apply blk_drew | apply blk_alloc); refine blk_put (cs := #[.slice Ao137 t142.length co137, .int .i64 0]) ?_ 1 _ rfl; (with_reducible repeat first | apply blk_drewN | apply blk_drew | apply blk_alloc); refine blk_put (cs := #[.slice none 0 0, .int .i64 0]) ?_ 0 _ rfl; (with_reducible repeat first | apply blk_drewN | apply blk_drew | apply blk_alloc); exact BK148.out) hb); have n10_ := Aside0.mk (below_step (by repeat (first | (with_reducible first | exact HB.out | apply below_alloc | apply pw_below_drewN | apply below_drew1 | refine below_set ?_ GE101.out | refine below_set ?_ GE113.out | refine below_set ?_ GE118.out | refine below_set ?_ GE125.out | refine below_set ?_ GE148.out) | exact HB.out)) hb); clear HO_114000; clear HO_119000; clear HO_126000; clear HO140; clear HO144; clear BK101; clear BK113; clear BK118; clear BK125; clear BK148; clear HB; have HO_114000 := n0_; have HO_119000 := n1_; have HO_126000 := n2_; have HO140 := n3_; have HO144 := n4_; have BK101 := n5_; have BK113 := n6_; have BK118 := n7_; have BK125 := n8_; have BK148 := n9_; have HB := n10_; clear n0_ n1_ n2_ n3_ n4_ n5_ n6_ n7_ n8_ n9_ n10_; (try clear hb); (try clear hb2); (try clear hk); (try clear hi)))
                          go_meet
                          case rel => exact ⟨_, (true), (by first | rfl | (simp; done) | (simp [*]; done)), H', ⟨by have := HJ11.out; have := HJ69.out; first | omega | exact Nat.le_refl _⟩, ⟨by (try simp only [hl119000_69]); (with_reducible repeat (first | apply Kd.R_alloc | apply Kd.R_drewN | apply Kd.R_drew)); exact Kd.R_mono HO_114000.out (fun _ hk => ⟨hk.1.1.1, ⟨hk.1.1.2, hk.2⟩⟩)⟩, ⟨by (try simp only [hl119000_69]); (with_reducible repeat (first | apply Kd.R_alloc | apply Kd.R_drewN | apply Kd.R_drew)); exact Kd.R_mono HO_119000.out (fun _ hk => ⟨hk.1.1.1, ⟨hk.1.1.2, hk.2⟩⟩)⟩, ⟨by (try simp only [hl119000_69]); (with_reducible repeat (first | apply Kd.R_alloc | apply Kd.R_drewN | apply Kd.R_drew)); exact Kd.R_mono HO_126000.out (fun _ hk => ⟨hk.1.1.1, ⟨hk.1.1.2, hk.2⟩⟩)⟩, ⟨by (try simp only [hl119000_69]); (with_reducible repeat (first | apply Kd.R_alloc | apply Kd.R_drewN | apply Kd.R_drew)); exact Kd.R_mono HO144.out (fun _ hk => ⟨hk.1.1.1.2, ⟨hk.1.1.2, hk.1.2⟩⟩)⟩, ⟨by (try simp only [hl119000_69]); (with_reducible repeat first | apply blk_drewN | apply blk_drew | apply blk_alloc); exact BK101.out⟩, ⟨by (try simp only [hl119000_69]); (with_reducible repeat first | apply blk_drewN | apply blk_drew | apply blk_alloc); exact BK113.out⟩, ⟨by (try simp only [hl119000_69]); (with_reducible repeat first | apply blk_drewN | apply blk_drew | apply blk_alloc); exact BK118.out⟩, ⟨by (try simp only [hl119000_69]); (with_reducible repeat first | apply blk_drewN | apply blk_drew | apply blk_alloc); exact BK125.out⟩, ⟨by (try simp only [hl119000_69]); (with_reducible repeat first | apply blk_drewN | apply blk_drew | apply blk_alloc); exact BK148.out⟩, ⟨by repeat (first | (with_reducible first | exact HB.out | apply below_alloc | apply pw_below_drewN | apply below_drew1 | refine below_set ?_ GE101.out | refine below_set ?_ GE113.out | refine below_set ?_ GE118.out | refine below_set ?_ GE125.out | refine below_set ?_ GE148.out) | exact HB.out)⟩⟩
                      case rest =>
                        clear HC122
                        try clear c1
                        try clear c2
                        try clear p2
                        try clear c3
                        try clear c4
                        try clear c4b0
                        try clear c5
                        try clear c6
                        try clear c7
                        try clear c8
                        try clear c9
                        try clear c10
                        try clear c11
                        try clear c12
                        try clear c13
                        try clear c14
                        try clear c15
                        try clear c16
                        try clear c17
                        try clear c22
                        try clear c24
                        try clear c25
                        try clear c28
                        try clear c29
                        try clear c30
                        try clear c31
                        try clear c34
                        try clear c35
                        try clear c36
                        try clear c39
                        try clear c40
                        try clear c40b0
                        try clear c40b1
                        try clear c41
                        try clear c42
                        try clear c43
                        try clear c45
                        try clear c46
                        try clear c49
                        try clear c50
                        try clear c51
                        try clear c53
                        try clear c54
                        try clear c57
                        try clear c58
                        try clear c59
                        try clear c61
                        try clear c62
                        try clear c65
                        try clear c68
                        try clear c75
                        try clear c76
                        try clear c77
                        try clear c80
                        try clear c80b0
                        try clear c82
                        try clear c83
                        try clear c83b0
                        try clear c83b1
                        try clear c84
                        try clear c85
                        try clear c86
                        try clear c88
                        try clear c89
                        try clear c92
                        try clear c93
                        try clear c94
                        try clear c96
                        try clear c97
                        try clear c100
                        try clear c101
                        try clear c102
                        try clear c104
                        try clear c105
                        try clear c108
                        try clear c111
                        try clear c111b0
                        try clear c112
                        try clear c113
                        try clear c114
                        try clear c119
                        try clear c119b0
                        try clear c119b1
                        try clear c123
                        try clear c124
                        try clear c125
                        try clear c130
                        try clear c131
                        try clear c138
                        try clear c139
                        try clear c140
                        try clear c141
                        try clear c144
                        try clear c145
                        try clear c145b0
                        try clear c145b1
                        try clear c146
                        try clear c147
                        try clear c148
                        try clear c149
                        try clear c151
                        try clear c152
                        try clear c153
                        try clear c156
                        try clear c157
                        try clear c158
                        try clear c159
                        try clear c161
                        try clear c162
                        try clear c163
                        try clear c166
                        try clear c167
                        try clear c168
                        try clear c169
                        try clear c171
                        try clear c172
                        try clear c173
                        try clear hcz103_0
                        try clear hcz103_1
                        try clear hcz106_0
                        try clear hcz106_1
                        try clear hcz115_0
                        try clear hcz115_1
                        try clear hcz117_0
                        try clear hcz117_1
                        try clear hcz126_0
                        try clear hcz126_1
                        try clear hcz128_0
                        try clear hcz128_1
                        try clear hcz132_0
                        try clear hcz132_1
                        try clear hcz142_0
                        try clear hcz142_1
                        try clear hcz14_0
                        try clear hcz14_1
                        try clear hcz150_0
                        try clear hcz150_1
                        try clear hcz154_0
                        try clear hcz154_1
                        try clear hcz160_0
                        try clear hcz160_1
                        try clear hcz164_0
                        try clear hcz164_1
                        try clear hcz16_0
                        try clear hcz16_1
                        try clear hcz170_0
                        try clear hcz170_1
                        try clear hcz174_0
                        try clear hcz174_1
                        try clear hcz23_0
                        try clear hcz23_1
                        try clear hcz24_0
                        try clear hcz24_1
                        try clear hcz30_0
                        try clear hcz30_1
                        try clear hcz37_0
                        try clear hcz37_1
                        try clear hcz44_0
                        try clear hcz44_1
                        try clear hcz47_0
                        try clear hcz47_1
                        try clear hcz52_0
                        try clear hcz52_1
                        try clear hcz55_0
                        try clear hcz55_1
                        try clear hcz60_0
                        try clear hcz60_1
                        try clear hcz63_0
                        try clear hcz63_1
                        try clear hcz6_0
                        try clear hcz6_1
                        try clear hcz78_0
                        try clear hcz78_1
                        try clear hcz87_0
                        try clear hcz87_1
                        try clear hcz90_0
                        try clear hcz90_1
                        try clear hcz95_0
                        try clear hcz95_1
                        try clear hcz98_0
                        try clear hcz98_1
                        try clear hfz103_0
                        try clear hfz103_1
                        try clear hfz106_0
                        try clear hfz106_1
                        try clear hfz115_0
                        try clear hfz115_1
                        try clear hfz117_0
                        try clear hfz117_1
                        try clear hfz126_0
                        try clear hfz126_1
                        try clear hfz128_0
                        try clear hfz128_1
                        try clear hfz132_0
                        try clear hfz132_1
                        try clear hfz142_0
                        try clear hfz142_1
                        try clear hfz14_0
                        try clear hfz14_1
                        try clear hfz150_0
                        try clear hfz150_1
                        try clear hfz154_0
                        try clear hfz154_1
                        try clear hfz160_0
                        try clear hfz160_1
                        try clear hfz164_0
                        try clear hfz164_1
                        try clear hfz16_0
                        try clear hfz16_1
                        try clear hfz170_0
                        try clear hfz170_1
                        try clear hfz174_0
                        try clear hfz174_1
                        try clear hfz23_0
                        try clear hfz23_1
                        try clear hfz24_0
                        try clear hfz24_1
                        try clear hfz30_0
                        try clear hfz30_1
                        try clear hfz37_0
                        try clear hfz37_1
                        try clear hfz44_0
                        try clear hfz44_1
                        try clear hfz47_0
                        try clear hfz47_1
                        try clear hfz52_0
                        try clear hfz52_1
                        try clear hfz55_0
                        try clear hfz55_1
                        try clear hfz60_0
                        try clear hfz60_1
                        try clear hfz63_0
                        try clear hfz63_1
                        try clear hfz6_0
                        try clear hfz6_1
                        try clear hfz78_0
                        try clear hfz78_1
                        try clear hfz87_0
                        try clear hfz87_1
                        try clear hfz90_0
                        try clear hfz90_1
                        try clear hfz95_0
                        try clear hfz95_1
                        try clear hfz98_0
                        try clear hfz98_1
                        try clear p2
                        obtain ⟨kq, x113_121, rfl, HA, HJ121, HO_114000, HO_119000, HO_126000, HO_149000, BK101, BK113, BK118, BK125, BK148, HB⟩ := hcut
                        have hl126000_121 := (Kd.R_reads' HO_126000.out).1
                        rw [hl126000_121] at HO_126000
                        (try simp only [hl126000_121])
                        (try simp only [hl126000_121] at BK101)
                        (try simp only [hl126000_121] at BK113)
                        (try simp only [hl126000_121] at BK118)
                        (try simp only [hl126000_121] at BK125)
                        (try simp only [hl126000_121] at BK148)
                        (try simp only [hl126000_121] at HO_114000)
                        (try simp only [hl126000_121] at HO_119000)
                        (try simp only [hl126000_121] at HO_149000)
                        cases kq with
                        | zero => exact absurd HA.out (by simp [laws_FnExactRoundsOf.j2])
                        | succ kj121 =>
                          have H := HA.out
                          clear HA
                          simp only [laws_FnExactRoundsOf.j2] at H
                          by_cases c176 : x113_121 = true
                          · subst c176
                            have H1 : (some false) = some r := by rw [if_pos rfl] at H; exact H
                            clear H
                            have H := H1
                            clear H1
                            obtain rfl := Option.some.inj H
                            go_wp2
                            go_ret
                            exact ⟨by first | rfl | (simp [errW_none, errW_some] <;> rfl) | (simp [*, errW_none, errW_some] <;> rfl), by repeat (first | (with_reducible first | exact HB.out | apply below_alloc | apply pw_below_drewN | apply below_drew1 | refine below_set ?_ GE101.out | refine below_set ?_ GE113.out | refine below_set ?_ GE118.out | refine below_set ?_ GE125.out | refine below_set ?_ GE148.out) | exact HB.out)⟩
                          · replace c176 := Bool.eq_false_iff.mpr c176
                            subst c176
                            have H1 : ((laws_heldShares.f kj121 t136 t122 1).bind fun t150 => (if t150 < 0 then (some false) else (if t150 = t135 then (some true) else (some false)))) = some r := by rw [if_neg (show ¬ (false = true) by decide)] at H; exact H
                            clear H
                            have H := H1
                            clear H1
                            replace H := Option.bind_eq_some_iff.mp H
                            obtain ⟨t150, A1770, H⟩ := H
                            replace H : (if t150 < 0 then (some false) else (if t150 = t135 then (some true) else (some false))) = some r := H
                            have A177 := Aside0.mk A1770
                            clear A1770
                            by_cases c178 : t150 < 0
                            · rw [if_pos c178] at H
                              have c178b0 : decide (t150 < 0) = true := decide_eq_true c178
                              clear c178
                              obtain rfl := Option.some.inj H
                              have hnb179 := NB125_101.out
                              have hnc179 := NB101_125.out
                              have hnb180 := NB125_113.out
                              have hnc180 := NB113_125.out
                              have hnb181 := NB125_118.out
                              have hnc181 := NB118_125.out
                              have hnb182 := NB125_148.out
                              have hnc182 := NB148_125.out
                              have hcz183_0 : wc.cell? ⟨gb125, 0, none⟩ = some (.slice Ao33 t136.length co33) := (blk_cell BK125.out 0).trans rfl
                              have hcz183_1 : wc.cell? ⟨gb125, 1, none⟩ = some (.int .i64 t122) := (blk_cell BK125.out 1).trans rfl
                              have hfz183_0 := blk_frozen BK125.out 0
                              have hfz183_1 := blk_frozen BK125.out 1
                              go_wp2_with (first | ((with_reducible refine gate_callee (f := 25) rfl ?_); refine goesL_ (some 116) rfl rfl Try.func25 (by kernel_rfl) rfl #[.agg #[.slice Ao33 t136.length co33, .int .i64 t122], .int .i64 1] rfl (by (try simp only [List.map_toArray, List.map_cons, List.map_nil]); first | done | rfl | (simp only [List.length_drop, List.length_take]; rfl)) ?_; (with_reducible refine (laws_heldShares.calls kj121 _ _ t136 t122 1 t150 _ ?side1 ?side2 A177.out).mono ?_); (case side1 => repeat (first | exact (Kd.R_reads' HO_126000.out).2.2 | (with_reducible refine Kd.C_alloc ?_ _) | (with_reducible refine Kd.C_drewN ?_ _) | (with_reducible refine Kd.C_drew ?_))); (case side2 => exact (Kd.R_reads' HO_126000.out).2.1); rintro e w184 ⟨rfl, hb⟩; refine ⟨_, rfl, ?_⟩; have n0_ := Aside0.mk (Kd.R_below (by (with_reducible repeat (first | apply Kd.R_alloc | apply Kd.R_drewN | apply Kd.R_drew)); exact HO_114000.out) hb); have n1_ := Aside0.mk (Kd.R_below (by (with_reducible repeat (first | apply Kd.R_alloc | apply Kd.R_drewN | apply Kd.R_drew)); exact HO_119000.out) hb); have n2_ := Aside0.mk (Kd.R_below (by (with_reducible repeat (first | apply Kd.R_alloc | apply Kd.R_drewN | apply Kd.R_drew)); exact HO_126000.out) hb); have n3_ := Aside0.mk (Kd.R_below (by (with_reducible repeat (first | apply Kd.R_alloc | apply Kd.R_drewN | apply Kd.R_drew)); exact HO_149000.out) hb); have n4_ := Aside0.mk (blk_below (g := gb101) (o := .cells #[.slice A0_0 l0_0.length c0_0, .int .i64 a0_1] 24 (0, 0)) (by (with_reducible repeat first | apply blk_drewN | apply blk_drew | apply blk_alloc); exact BK101.out) hb); have n5_ := Aside0.mk (blk_below (g := gb113) (o := .cells #[.slice Ao21 t107.length co21, .int .i64 t110] 27 (0, 0)) (by (with_reducible repeat first | apply blk_drewN | apply blk_drew | apply blk_alloc); exact BK113.out) hb); have n6_ := Aside0.mk (blk_below (g := gb118) (o := .cells #[.slice Ao27 t133.length co27, .int .i64 t117] 27 (0, 0)) (by (with_reducible repeat first | apply blk_drewN | apply blk_drew | apply blk_alloc); exact BK118.out) hb); have n7_ := Aside0.mk (blk_below (g := gb125) (o := .cells #[.slice Ao33 t136.length co33, .int .i64 t122] 27 (0, 0)) (by (with_reducible repeat first | apply blk_drewN | apply blk_drew | apply blk_alloc); exact BK125.out) hb); have n8_ := Aside0.mk (blk_below (g := gb148) (o := .cells #[.slice Ao137 t142.length co137, .int .i64 t145] 27 (0, 0)) (by (with_reducible repeat first | apply blk_drewN | apply blk_drew | apply blk_alloc); exact BK148.out) hb); have n9_ := Aside0.mk (below_step (by repeat (first | (with_reducible first | exact HB.out | apply below_alloc | apply pw_below_drewN | apply below_drew1 | refine below_set ?_ GE101.out | refine below_set ?_ GE113.out | refine below_set ?_ GE118.out | refine below_set ?_ GE125.out | refine below_set ?_ GE148.out) | exact HB.out)) hb); clear HO_114000; clear HO_119000; clear HO_126000; clear HO_149000; clear BK101; clear BK113; clear BK118; clear BK125; clear BK148; clear HB; have HO_114000 := n0_; have HO_119000 := n1_; have HO_126000 := n2_; have HO_149000 := n3_; have BK101 := n4_; have BK113 := n5_; have BK118 := n6_; have BK125 := n7_; have BK148 := n8_; have HB := n9_; clear n0_ n1_ n2_ n3_ n4_ n5_ n6_ n7_ n8_ n9_; (try clear hb); (try clear hb2); (try clear hk); (try clear hi)))
                              go_ret
                              exact ⟨by first | rfl | (simp [errW_none, errW_some] <;> rfl) | (simp [*, errW_none, errW_some] <;> rfl), by repeat (first | (with_reducible first | exact HB.out | apply below_alloc | apply pw_below_drewN | apply below_drew1 | refine below_set ?_ GE101.out | refine below_set ?_ GE113.out | refine below_set ?_ GE118.out | refine below_set ?_ GE125.out | refine below_set ?_ GE148.out) | exact HB.out)⟩
                            · rw [if_neg c178] at H
                              have c178b0 : decide (t150 < 0) = false := decide_eq_false c178
                              clear c178
                              by_cases c185 : t150 = t135
                              · rw [if_pos c185] at H
                                have c185b0 : (t150 == t135) = true := beq_iff_eq.mpr c185
                                have c185b1 : (t150 != t135) = false := bne_eq_false_iff_eq.mpr c185
                                clear c185
                                obtain rfl := Option.some.inj H
                                have hnb186 := NB125_101.out
                                have hnc186 := NB101_125.out
                                have hnb187 := NB125_113.out
                                have hnc187 := NB113_125.out
                                have hnb188 := NB125_118.out
                                have hnc188 := NB118_125.out
                                have hnb189 := NB125_148.out
                                have hnc189 := NB148_125.out
                                have hcz190_0 : wc.cell? ⟨gb125, 0, none⟩ = some (.slice Ao33 t136.length co33) := (blk_cell BK125.out 0).trans rfl
                                have hcz190_1 : wc.cell? ⟨gb125, 1, none⟩ = some (.int .i64 t122) := (blk_cell BK125.out 1).trans rfl
                                have hfz190_0 := blk_frozen BK125.out 0
                                have hfz190_1 := blk_frozen BK125.out 1
                                go_wp2_with (first | ((with_reducible refine gate_callee (f := 25) rfl ?_); refine goesL_ (some 116) rfl rfl Try.func25 (by kernel_rfl) rfl #[.agg #[.slice Ao33 t136.length co33, .int .i64 t122], .int .i64 1] rfl (by (try simp only [List.map_toArray, List.map_cons, List.map_nil]); first | done | rfl | (simp only [List.length_drop, List.length_take]; rfl)) ?_; (with_reducible refine (laws_heldShares.calls kj121 _ _ t136 t122 1 t150 _ ?side1 ?side2 A177.out).mono ?_); (case side1 => repeat (first | exact (Kd.R_reads' HO_126000.out).2.2 | (with_reducible refine Kd.C_alloc ?_ _) | (with_reducible refine Kd.C_drewN ?_ _) | (with_reducible refine Kd.C_drew ?_))); (case side2 => exact (Kd.R_reads' HO_126000.out).2.1); rintro e w191 ⟨rfl, hb⟩; refine ⟨_, rfl, ?_⟩; have n0_ := Aside0.mk (Kd.R_below (by (with_reducible repeat (first | apply Kd.R_alloc | apply Kd.R_drewN | apply Kd.R_drew)); exact HO_114000.out) hb); have n1_ := Aside0.mk (Kd.R_below (by (with_reducible repeat (first | apply Kd.R_alloc | apply Kd.R_drewN | apply Kd.R_drew)); exact HO_119000.out) hb); have n2_ := Aside0.mk (Kd.R_below (by (with_reducible repeat (first | apply Kd.R_alloc | apply Kd.R_drewN | apply Kd.R_drew)); exact HO_126000.out) hb); have n3_ := Aside0.mk (Kd.R_below (by (with_reducible repeat (first | apply Kd.R_alloc | apply Kd.R_drewN | apply Kd.R_drew)); exact HO_149000.out) hb); have n4_ := Aside0.mk (blk_below (g := gb101) (o := .cells #[.slice A0_0 l0_0.length c0_0, .int .i64 a0_1] 24 (0, 0)) (by (with_reducible repeat first | apply blk_drewN | apply blk_drew | apply blk_alloc); exact BK101.out) hb); have n5_ := Aside0.mk (blk_below (g := gb113) (o := .cells #[.slice Ao21 t107.length co21, .int .i64 t110] 27 (0, 0)) (by (with_reducible repeat first | apply blk_drewN | apply blk_drew | apply blk_alloc); exact BK113.out) hb); have n6_ := Aside0.mk (blk_below (g := gb118) (o := .cells #[.slice Ao27 t133.length co27, .int .i64 t117] 27 (0, 0)) (by (with_reducible repeat first | apply blk_drewN | apply blk_drew | apply blk_alloc); exact BK118.out) hb); have n7_ := Aside0.mk (blk_below (g := gb125) (o := .cells #[.slice Ao33 t136.length co33, .int .i64 t122] 27 (0, 0)) (by (with_reducible repeat first | apply blk_drewN | apply blk_drew | apply blk_alloc); exact BK125.out) hb); have n8_ := Aside0.mk (blk_below (g := gb148) (o := .cells #[.slice Ao137 t142.length co137, .int .i64 t145] 27 (0, 0)) (by (with_reducible repeat first | apply blk_drewN | apply blk_drew | apply blk_alloc); exact BK148.out) hb); have n9_ := Aside0.mk (below_step (by repeat (first | (with_reducible first | exact HB.out | apply below_alloc | apply pw_below_drewN | apply below_drew1 | refine below_set ?_ GE101.out | refine below_set ?_ GE113.out | refine below_set ?_ GE118.out | refine below_set ?_ GE125.out | refine below_set ?_ GE148.out) | exact HB.out)) hb); clear HO_114000; clear HO_119000; clear HO_126000; clear HO_149000; clear BK101; clear BK113; clear BK118; clear BK125; clear BK148; clear HB; have HO_114000 := n0_; have HO_119000 := n1_; have HO_126000 := n2_; have HO_149000 := n3_; have BK101 := n4_; have BK113 := n5_; have BK118 := n6_; have BK125 := n7_; have BK148 := n8_; have HB := n9_; clear n0_ n1_ n2_ n3_ n4_ n5_ n6_ n7_ n8_ n9_; (try clear hb); (try clear hb2); (try clear hk); (try clear hi)))
                                go_ret
                                exact ⟨by first | rfl | (simp [errW_none, errW_some] <;> rfl) | (simp [*, errW_none, errW_some] <;> rfl), by repeat (first | (with_reducible first | exact HB.out | apply below_alloc | apply pw_below_drewN | apply below_drew1 | refine below_set ?_ GE101.out | refine below_set ?_ GE113.out | refine below_set ?_ GE118.out | refine below_set ?_ GE125.out | refine below_set ?_ GE148.out) | exact HB.out)⟩
                              · rw [if_neg c185] at H
                                have c185b0 : (t150 == t135) = false := beq_eq_false_iff_ne.mpr c185
                                have c185b1 : (t150 != t135) = true := bne_iff_ne.mpr c185
                                obtain rfl := Option.some.inj H
                                have hnb192 := NB125_101.out
                                have hnc192 := NB101_125.out
                                have hnb193 := NB125_113.out
                                have hnc193 := NB113_125.out
                                have hnb194 := NB125_118.out
                                have hnc194 := NB118_125.out
                                have hnb195 := NB125_148.out
                                have hnc195 := NB148_125.out
                                have hcz196_0 : wc.cell? ⟨gb125, 0, none⟩ = some (.slice Ao33 t136.length co33) := (blk_cell BK125.out 0).trans rfl
                                have hcz196_1 : wc.cell? ⟨gb125, 1, none⟩ = some (.int .i64 t122) := (blk_cell BK125.out 1).trans rfl
                                have hfz196_0 := blk_frozen BK125.out 0
                                have hfz196_1 := blk_frozen BK125.out 1
                                go_wp2_with (first | ((with_reducible refine gate_callee (f := 25) rfl ?_); refine goesL_ (some 116) rfl rfl Try.func25 (by kernel_rfl) rfl #[.agg #[.slice Ao33 t136.length co33, .int .i64 t122], .int .i64 1] rfl (by (try simp only [List.map_toArray, List.map_cons, List.map_nil]); first | done | rfl | (simp only [List.length_drop, List.length_take]; rfl)) ?_; (with_reducible refine (laws_heldShares.calls kj121 _ _ t136 t122 1 t150 _ ?side1 ?side2 A177.out).mono ?_); (case side1 => repeat (first | exact (Kd.R_reads' HO_126000.out).2.2 | (with_reducible refine Kd.C_alloc ?_ _) | (with_reducible refine Kd.C_drewN ?_ _) | (with_reducible refine Kd.C_drew ?_))); (case side2 => exact (Kd.R_reads' HO_126000.out).2.1); rintro e w197 ⟨rfl, hb⟩; refine ⟨_, rfl, ?_⟩; have n0_ := Aside0.mk (Kd.R_below (by (with_reducible repeat (first | apply Kd.R_alloc | apply Kd.R_drewN | apply Kd.R_drew)); exact HO_114000.out) hb); have n1_ := Aside0.mk (Kd.R_below (by (with_reducible repeat (first | apply Kd.R_alloc | apply Kd.R_drewN | apply Kd.R_drew)); exact HO_119000.out) hb); have n2_ := Aside0.mk (Kd.R_below (by (with_reducible repeat (first | apply Kd.R_alloc | apply Kd.R_drewN | apply Kd.R_drew)); exact HO_126000.out) hb); have n3_ := Aside0.mk (Kd.R_below (by (with_reducible repeat (first | apply Kd.R_alloc | apply Kd.R_drewN | apply Kd.R_drew)); exact HO_149000.out) hb); have n4_ := Aside0.mk (blk_below (g := gb101) (o := .cells #[.slice A0_0 l0_0.length c0_0, .int .i64 a0_1] 24 (0, 0)) (by (with_reducible repeat first | apply blk_drewN | apply blk_drew | apply blk_alloc); exact BK101.out) hb); have n5_ := Aside0.mk (blk_below (g := gb113) (o := .cells #[.slice Ao21 t107.length co21, .int .i64 t110] 27 (0, 0)) (by (with_reducible repeat first | apply blk_drewN | apply blk_drew | apply blk_alloc); exact BK113.out) hb); have n6_ := Aside0.mk (blk_below (g := gb118) (o := .cells #[.slice Ao27 t133.length co27, .int .i64 t117] 27 (0, 0)) (by (with_reducible repeat first | apply blk_drewN | apply blk_drew | apply blk_alloc); exact BK118.out) hb); have n7_ := Aside0.mk (blk_below (g := gb125) (o := .cells #[.slice Ao33 t136.length co33, .int .i64 t122] 27 (0, 0)) (by (with_reducible repeat first | apply blk_drewN | apply blk_drew | apply blk_alloc); exact BK125.out) hb); have n8_ := Aside0.mk (blk_below (g := gb148) (o := .cells #[.slice Ao137 t142.length co137, .int .i64 t145] 27 (0, 0)) (by (with_reducible repeat first | apply blk_drewN | apply blk_drew | apply blk_alloc); exact BK148.out) hb); have n9_ := Aside0.mk (below_step (by repeat (first | (with_reducible first | exact HB.out | apply below_alloc | apply pw_below_drewN | apply below_drew1 | refine below_set ?_ GE101.out | refine below_set ?_ GE113.out | refine below_set ?_ GE118.out | refine below_set ?_ GE125.out | refine below_set ?_ GE148.out) | exact HB.out)) hb); clear HO_114000; clear HO_119000; clear HO_126000; clear HO_149000; clear BK101; clear BK113; clear BK118; clear BK125; clear BK148; clear HB; have HO_114000 := n0_; have HO_119000 := n1_; have HO_126000 := n2_; have HO_149000 := n3_; have BK101 := n4_; have BK113 := n5_; have BK118 := n6_; have BK125 := n7_; have BK148 := n8_; have HB := n9_; clear n0_ n1_ n2_ n3_ n4_ n5_ n6_ n7_ n8_ n9_; (try clear hb); (try clear hb2); (try clear hk); (try clear hi)))
                                go_ret
                                exact ⟨by first | rfl | (simp [errW_none, errW_some] <;> rfl) | (simp [*, errW_none, errW_some] <;> rfl), by repeat (first | (with_reducible first | exact HB.out | apply below_alloc | apply pw_below_drewN | apply below_drew1 | refine below_set ?_ GE101.out | refine below_set ?_ GE113.out | refine below_set ?_ GE118.out | refine below_set ?_ GE125.out | refine below_set ?_ GE148.out) | exact HB.out)⟩
                    · rw [if_neg c119] at H
                      have c119b0 : (t137 == t135) = false := beq_eq_false_iff_ne.mpr c119
                      have c119b1 : (t137 != t135) = true := bne_iff_ne.mpr c119
                      obtain rfl := Option.some.inj H
                      have hnb198 := NB125_101.out
                      have hnc198 := NB101_125.out
                      have hnb199 := NB125_113.out
                      have hnc199 := NB113_125.out
                      have hnb200 := NB125_118.out
                      have hnc200 := NB118_125.out
                      have hcz201_0 : wc.cell? ⟨gb125, 0, none⟩ = some (.slice Ao33 t119.length co33) := (blk_cell BK125.out 0).trans rfl
                      have hcz201_1 : wc.cell? ⟨gb125, 1, none⟩ = some (.int .i64 t122) := (blk_cell BK125.out 1).trans rfl
                      have hfz201_0 := blk_frozen BK125.out 0
                      have hfz201_1 := blk_frozen BK125.out 1
                      go_wp2_with (first | ((with_reducible refine gate_callee (f := 24) rfl ?_); refine goesL_ (some 83) rfl rfl Try.func24 (by kernel_rfl) rfl #[.agg #[.slice Ao33 t119.length co33, .int .i64 t122], .int .i64 1] rfl (by (try simp only [List.map_toArray, List.map_cons, List.map_nil]); first | done | rfl | (simp only [List.length_drop, List.length_take]; rfl)) ?_; (with_reducible refine (laws_markShares.calls kj69 (fun k_ => some k_ = (.slice Ao33 t119.length co33 : Value).ownBlock) (.slice Ao33 t119.length co33) t119 t122 1 t135 t136 w _ ?side1 ?side2 A109.out).mono ?_); (case side1 => repeat (first | (with_reducible first | exact HB.out | apply below_alloc | apply pw_below_drewN | apply below_drew1 | refine below_set ?_ GE101.out | refine below_set ?_ GE113.out | refine below_set ?_ GE118.out | refine below_set ?_ GE125.out) | exact HB.out)); (case side2 => exact Kd.R_tight rfl HO_126000.out); rintro e w202 ⟨rfl, hy0, hb, hkp⟩; refine ⟨_, rfl, ?_⟩; have n0_ := Aside0.mk (Kd.R_mono (ok' := fun k_ => some k_ ≠ (.slice Ao27 t133.length co27 : Value).ownBlock ∧ some k_ ≠ (.slice Ao33 t119.length co33 : Value).ownBlock) (Kd.R_keptB (HO_114000.out) hkp (fun k_ hk_ hs_ => (hk_.2) hs_)) (fun k_ hk_ => ⟨hk_.1.1, hk_.1.2⟩)); have n1_ := Aside0.mk (Kd.R_mono (ok' := fun k_ => some k_ ≠ (.slice Ao21 t107.length co21 : Value).ownBlock ∧ some k_ ≠ (.slice Ao33 t119.length co33 : Value).ownBlock) (Kd.R_keptB (HO_119000.out) hkp (fun k_ hk_ hs_ => (hk_.2) hs_)) (fun k_ hk_ => ⟨hk_.1.1, hk_.1.2⟩)); have n2_ := Aside0.mk (Kd.R_reok rfl hy0 (fun k_ e_ => HO_126000.out.1 k_ e_)); have n3_ := Aside0.mk (blk_kept (by (with_reducible repeat first | apply blk_drewN | apply blk_drew | apply blk_alloc); exact BK101.out) hkp (fun hs_ => (fun e_ => (Kd.R_ne HO_126000.out BK101.out (by decide)) e_) hs_)); have n4_ := Aside0.mk (blk_kept (by (with_reducible repeat first | apply blk_drewN | apply blk_drew | apply blk_alloc); exact BK113.out) hkp (fun hs_ => (fun e_ => (Kd.R_ne HO_126000.out BK113.out (by decide)) e_) hs_)); have n5_ := Aside0.mk (blk_kept (by (with_reducible repeat first | apply blk_drewN | apply blk_drew | apply blk_alloc); exact BK118.out) hkp (fun hs_ => (fun e_ => (Kd.R_ne HO_126000.out BK118.out (by decide)) e_) hs_)); have n6_ := Aside0.mk (blk_kept (by (with_reducible repeat first | apply blk_drewN | apply blk_drew | apply blk_alloc); exact BK125.out) hkp (fun hs_ => (fun e_ => (Kd.R_ne HO_126000.out BK125.out (by decide)) e_) hs_)); have n7_ := Aside0.mk (hb); clear HO_114000; clear HO_119000; clear HO_126000; clear BK101; clear BK113; clear BK118; clear BK125; clear HB; have HO_114000 := n0_; have HO_119000 := n1_; have HO_126000 := n2_; have BK101 := n3_; have BK113 := n4_; have BK118 := n5_; have BK125 := n6_; have HB := n7_; clear n0_ n1_ n2_ n3_ n4_ n5_ n6_ n7_; (try clear hb); (try clear hkp); (try clear hy0); have hcz203_0 : w202.cell? ⟨gb125, 0, none⟩ = some (.slice Ao33 t119.length co33) := (blk_cell BK125.out 0).trans rfl; have hcz203_1 : w202.cell? ⟨gb125, 1, none⟩ = some (.int .i64 t122) := (blk_cell BK125.out 1).trans rfl; have hfz203_0 := blk_frozen BK125.out 0; have hfz203_1 := blk_frozen BK125.out 1) | ((with_reducible refine gate_callee (f := 25) rfl ?_); refine goesL_ (some 86) rfl rfl Try.func25 (by kernel_rfl) rfl #[.agg #[.slice Ao33 t136.length co33, .int .i64 t122], .int .i64 1] rfl (by (try simp only [List.map_toArray, List.map_cons, List.map_nil]); first | done | (rw [show t136.length = t119.length from (Kd.R_reads' HO_126000.out).1.symm] <;> rfl) | rfl | (simp only [List.length_drop, List.length_take]; rfl)) ?_; (with_reducible refine (laws_heldShares.calls kj69 _ _ t136 t122 1 t137 _ ?side1 ?side2 A110.out).mono ?_); (case side1 => repeat (first | exact (Kd.R_reads' HO_126000.out).2.2 | (with_reducible refine Kd.C_alloc ?_ _) | (with_reducible refine Kd.C_drewN ?_ _) | (with_reducible refine Kd.C_drew ?_))); (case side2 => rw [show t136.length = t119.length from (Kd.R_reads' HO_126000.out).1.symm]; exact (Kd.R_reads' HO_126000.out).2.1); rintro e w204 ⟨rfl, hb⟩; refine ⟨_, rfl, ?_⟩; have n0_ := Aside0.mk (Kd.R_below (by (with_reducible repeat (first | apply Kd.R_alloc | apply Kd.R_drewN | apply Kd.R_drew)); exact HO_114000.out) hb); have n1_ := Aside0.mk (Kd.R_below (by (with_reducible repeat (first | apply Kd.R_alloc | apply Kd.R_drewN | apply Kd.R_drew)); exact HO_119000.out) hb); have n2_ := Aside0.mk (Kd.R_below (by (with_reducible repeat (first | apply Kd.R_alloc | apply Kd.R_drewN | apply Kd.R_drew)); exact HO_126000.out) hb); have n3_ := Aside0.mk (blk_below (g := gb101) (o := .cells #[.slice A0_0 l0_0.length c0_0, .int .i64 a0_1] 24 (0, 0)) (by (with_reducible repeat first | apply blk_drewN | apply blk_drew | apply blk_alloc); exact BK101.out) hb); have n4_ := Aside0.mk (blk_below (g := gb113) (o := .cells #[.slice Ao21 t107.length co21, .int .i64 t110] 27 (0, 0)) (by (with_reducible repeat first | apply blk_drewN | apply blk_drew | apply blk_alloc); exact BK113.out) hb); have n5_ := Aside0.mk (blk_below (g := gb118) (o := .cells #[.slice Ao27 t133.length co27, .int .i64 t117] 27 (0, 0)) (by (with_reducible repeat first | apply blk_drewN | apply blk_drew | apply blk_alloc); exact BK118.out) hb); have n6_ := Aside0.mk (blk_below (g := gb125) (o := .cells #[.slice Ao33 t119.length co33, .int .i64 t122] 27 (0, 0)) (by (with_reducible repeat first | apply blk_drewN | apply blk_drew | apply blk_alloc); exact BK125.out) hb); have n7_ := Aside0.mk (below_step (by repeat (first | (with_reducible first | exact HB.out | apply below_alloc | apply pw_below_drewN | apply below_drew1 | refine below_set ?_ GE101.out | refine below_set ?_ GE113.out | refine below_set ?_ GE118.out | refine below_set ?_ GE125.out) | exact HB.out)) hb); clear HO_114000; clear HO_119000; clear HO_126000; clear BK101; clear BK113; clear BK118; clear BK125; clear HB; have HO_114000 := n0_; have HO_119000 := n1_; have HO_126000 := n2_; have BK101 := n3_; have BK113 := n4_; have BK118 := n5_; have BK125 := n6_; have HB := n7_; clear n0_ n1_ n2_ n3_ n4_ n5_ n6_ n7_; (try clear hb); (try clear hb2); (try clear hk); (try clear hi)))
                      go_ret
                      exact ⟨by first | rfl | (simp [errW_none, errW_some] <;> rfl) | (simp [*, errW_none, errW_some] <;> rfl), by repeat (first | (with_reducible first | exact HB.out | apply below_alloc | apply pw_below_drewN | apply below_drew1 | refine below_set ?_ GE101.out | refine below_set ?_ GE113.out | refine below_set ?_ GE118.out | refine below_set ?_ GE125.out) | exact HB.out)⟩
          · replace c68 := Bool.eq_false_iff.mpr c68
            subst c68
            have H1 : (some false) = some r := by rw [if_neg (show ¬ (false = true) by decide)] at H; exact H
            clear H
            have H := H1
            clear H1
            obtain rfl := Option.some.inj H
            try go_wp2
            have n0_ := Aside0.mk (Kd.R_drew HO_114000.out)
            have n1_ := Aside0.mk (Kd.R_drew HO_119000.out)
            have n2_ := Aside0.mk (Kd.R_drew HO_126000.out)
            have n3_ := Aside0.mk (blk_drew BK101.out)
            have n4_ := Aside0.mk (blk_drew BK113.out)
            have n5_ := Aside0.mk (blk_drew BK118.out)
            have n6_ := Aside0.mk (blk_drew BK125.out)
            have n7_ := Aside0.mk (below_drew1 HB.out)
            clear HO_114000
            clear HO_119000
            clear HO_126000
            clear BK101
            clear BK113
            clear BK118
            clear BK125
            clear HB
            have HO_114000 := n0_
            have HO_119000 := n1_
            have HO_126000 := n2_
            have BK101 := n3_
            have BK113 := n4_
            have BK118 := n5_
            have BK125 := n6_
            have HB := n7_
            clear n0_ n1_ n2_ n3_ n4_ n5_ n6_ n7_
            refine start_ (n := 5) (S := fun w' => w'.cell? ⟨gb118, 0, none⟩ = some (.slice Ao27 t114.length co27) ∧ w'.cell? ⟨gb118, 1, none⟩ = some (.int .i64 t117) ∧ w'.cell? ⟨gb101, 0, none⟩ = some (.slice A0_0 l0_0.length c0_0) ∧ w'.cell? ⟨gb101, 1, none⟩ = some (.int .i64 a0_1)) (ds := []) #[false, false, false, false, false] (by kernel_rfl) rfl rfl ⟨(blk_cell BK118.out 0).trans rfl, (blk_cell BK118.out 1).trans rfl, (blk_cell BK101.out 0).trans rfl, (blk_cell BK101.out 1).trans rfl⟩ (fun hHeld => ?_)
            generalize wc.drew = w205 at HO_114000 HO_119000 HO_126000 BK101 BK113 BK118 BK125 HB hHeld ⊢
            refine take_ (i := 0) (N := some 55) (v := ?_) (a' := ?_) #[true, false, false, false, false] rfl rfl (by kernel_rfl) (fun _ _ _ h => h) (Or.inl ⟨by rfl, ?_⟩) hHeld ?_ ?_
            rotate_left
            · rintro w' ⟨s0, s1, s2, s3⟩
              go_simp
              with_reducible rfl
            rotate_left
            · simp only [Act.put, List.setIfInBounds_toArray, List.set_cons_zero, List.set_cons_succ, i64_w, i32_w]
              rfl
            refine take_ (i := 1) (N := some 56) (v := ?_) (a' := ?_) #[true, true, false, false, false] rfl rfl (by kernel_rfl) (fun _ _ _ h => h) (Or.inl ⟨by rfl, ?_⟩) hHeld ?_ ?_
            rotate_left
            · rintro w' ⟨s0, s1, s2, s3⟩
              go_simp
              with_reducible rfl
            rotate_left
            · simp only [Act.put, List.setIfInBounds_toArray, List.set_cons_zero, List.set_cons_succ, i64_w, i32_w]
              rfl
            refine one_ (i := 2) (N := some 57) #[true, true, true, false, false] rfl rfl (by kernel_rfl) (by decide) (fun K hK => ?_)
            refine goes_ Try.func13 (by kernel_rfl) rfl #[.agg #[.slice A0_0 l0_0.length c0_0, .int .i64 a0_1]] (by rfl) rfl rfl (by (try simp only [List.map_toArray, List.map_cons, List.map_nil]); first | done | rfl | (simp only [List.length_drop, List.length_take]; rfl)) ?_
            with_reducible refine (laws_toShares.calls kj11 _ _ l0_0 a0_1 t127 t130 _ ?side1 ?side2 A66.out).mono ?_
            (case side1 => repeat (first | exact (Kd.C_below HR0_0.out HB.out) | (with_reducible refine Kd.C_alloc ?_ _) | (with_reducible refine Kd.C_drewN ?_ _) | (with_reducible refine Kd.C_drew ?_)))
            (case side2 => exact HC0_0.out)
            rintro e w206 ⟨v128, rfl, ho0, hb⟩
            refine ⟨_, rfl, ?_⟩
            have n0_ := Aside0.mk (Kd.R_elder' (by (with_reducible repeat (first | apply Kd.R_alloc | apply Kd.R_drewN | apply Kd.R_drew)); exact HO_114000.out) (Kd.R_base ho0) hb)
            have n1_ := Aside0.mk (Kd.R_elder' (by (with_reducible repeat (first | apply Kd.R_alloc | apply Kd.R_drewN | apply Kd.R_drew)); exact HO_119000.out) (Kd.R_base ho0) hb)
            have n2_ := Aside0.mk (Kd.R_elder' (by (with_reducible repeat (first | apply Kd.R_alloc | apply Kd.R_drewN | apply Kd.R_drew)); exact HO_126000.out) (Kd.R_base ho0) hb)
            have n3_ := Aside0.mk (Kd.R_lower (Kd.R_new' (Kd.R_new' (Kd.R_new' ho0 (Kd.R_lt (by (with_reducible repeat (first | apply Kd.R_alloc | apply Kd.R_drewN | apply Kd.R_drew)); exact HO_114000.out))) (Kd.R_lt (by (with_reducible repeat (first | apply Kd.R_alloc | apply Kd.R_drewN | apply Kd.R_drew)); exact HO_119000.out))) (Kd.R_lt (by (with_reducible repeat (first | apply Kd.R_alloc | apply Kd.R_drewN | apply Kd.R_drew)); exact HO_126000.out))) (below_size (by repeat (first | (with_reducible first | exact HB.out | apply below_alloc | apply pw_below_drewN | apply below_drew1 | refine below_set ?_ GE101.out | refine below_set ?_ GE113.out | refine below_set ?_ GE118.out | refine below_set ?_ GE125.out) | exact HB.out))))
            have n4_ := Aside0.mk (blk_below (g := gb101) (o := .cells #[.slice A0_0 l0_0.length c0_0, .int .i64 a0_1] 24 (0, 0)) (by (with_reducible repeat first | apply blk_drewN | apply blk_drew | apply blk_alloc); exact BK101.out) hb)
            have n5_ := Aside0.mk (blk_below (g := gb113) (o := .cells #[.slice Ao21 t107.length co21, .int .i64 t110] 27 (0, 0)) (by (with_reducible repeat first | apply blk_drewN | apply blk_drew | apply blk_alloc); exact BK113.out) hb)
            have n6_ := Aside0.mk (blk_below (g := gb118) (o := .cells #[.slice Ao27 t114.length co27, .int .i64 t117] 27 (0, 0)) (by (with_reducible repeat first | apply blk_drewN | apply blk_drew | apply blk_alloc); exact BK118.out) hb)
            have n7_ := Aside0.mk (blk_below (g := gb125) (o := .cells #[.slice Ao33 t119.length co33, .int .i64 t122] 27 (0, 0)) (by (with_reducible repeat first | apply blk_drewN | apply blk_drew | apply blk_alloc); exact BK125.out) hb)
            have n8_ := Aside0.mk (below_step (by repeat (first | (with_reducible first | exact HB.out | apply below_alloc | apply pw_below_drewN | apply below_drew1 | refine below_set ?_ GE101.out | refine below_set ?_ GE113.out | refine below_set ?_ GE118.out | refine below_set ?_ GE125.out) | exact HB.out)) hb)
            clear HO_114000
            clear HO_119000
            clear HO_126000
            clear BK101
            clear BK113
            clear BK118
            clear BK125
            clear HB
            have HO_114000 := n0_
            have HO_119000 := n1_
            have HO_126000 := n2_
            have HO129 := n3_
            have BK101 := n4_
            have BK113 := n5_
            have BK118 := n6_
            have BK125 := n7_
            have HB := n8_
            clear n0_ n1_ n2_ n3_ n4_ n5_ n6_ n7_ n8_
            (try clear hb)
            (try clear hb2)
            (try clear hk)
            (try clear hi)
            (try clear ho0)
            obtain ⟨Ao207, co207, eo207⟩ := Kd.R_slice HO129.out
            (first | subst eo207 | (injection eo207 with f1_ f2_ f3_; have f4_ := f1_.symm; have f5_ := f3_.symm; clear f1_ f2_ f3_; subst f4_; subst f5_))
            refine hK.out _ _ ⟨(blk_cell BK118.out 0).trans rfl, (blk_cell BK118.out 1).trans rfl, (blk_cell BK101.out 0).trans rfl, (blk_cell BK101.out 1).trans rfl⟩ (fun hHeld => ?_)
            clear hK K
            refine norm_ (a' := ?_) ?_ ?_
            rotate_left
            · show Act.put _ (some 57) _ = _
              simp only [Act.put, List.setIfInBounds_toArray, List.set_cons_zero, List.set_cons_succ, i64_w, i32_w]
              rfl
            refine one_ (i := 3) (N := some 58) #[true, true, true, true, false] rfl rfl (by kernel_rfl) (by decide) (fun K hK => ?_)
            refine goes_ Try.func15 (by kernel_rfl) rfl #[.agg #[.slice Ao27 t114.length co27, .int .i64 t117], .agg #[.slice Ao207 t127.length co207, .int .i64 t130]] (by rfl) rfl rfl (by (try simp only [List.map_toArray, List.map_cons, List.map_nil]); first | done | rfl | (simp only [List.length_drop, List.length_take]; rfl)) ?_
            with_reducible refine (laws_eqShares.calls kj11 _ _ t114 t117 _ _ t127 t130 false _ ?side1 ?side2 ?side3 ?side4 A67.out).mono ?_
            (case side1 => repeat (first | exact (Kd.R_reads' HO_119000.out).2.2 | (with_reducible refine Kd.C_alloc ?_ _) | (with_reducible refine Kd.C_drewN ?_ _) | (with_reducible refine Kd.C_drew ?_)))
            (case side2 => exact (Kd.R_reads' HO_119000.out).2.1)
            (case side3 => repeat (first | exact (Kd.R_reads' HO129.out).2.2 | (with_reducible refine Kd.C_alloc ?_ _) | (with_reducible refine Kd.C_drewN ?_ _) | (with_reducible refine Kd.C_drew ?_)))
            (case side4 => exact (Kd.R_reads' HO129.out).2.1)
            rintro e w208 ⟨rfl, hb⟩
            refine ⟨_, rfl, ?_⟩
            have n0_ := Aside0.mk (Kd.R_below (by (with_reducible repeat (first | apply Kd.R_alloc | apply Kd.R_drewN | apply Kd.R_drew)); exact HO_114000.out) hb)
            have n1_ := Aside0.mk (Kd.R_below (by (with_reducible repeat (first | apply Kd.R_alloc | apply Kd.R_drewN | apply Kd.R_drew)); exact HO_119000.out) hb)
            have n2_ := Aside0.mk (Kd.R_below (by (with_reducible repeat (first | apply Kd.R_alloc | apply Kd.R_drewN | apply Kd.R_drew)); exact HO_126000.out) hb)
            have n3_ := Aside0.mk (Kd.R_below (by (with_reducible repeat (first | apply Kd.R_alloc | apply Kd.R_drewN | apply Kd.R_drew)); exact HO129.out) hb)
            have n4_ := Aside0.mk (blk_below (g := gb101) (o := .cells #[.slice A0_0 l0_0.length c0_0, .int .i64 a0_1] 24 (0, 0)) (by (with_reducible repeat first | apply blk_drewN | apply blk_drew | apply blk_alloc); exact BK101.out) hb)
            have n5_ := Aside0.mk (blk_below (g := gb113) (o := .cells #[.slice Ao21 t107.length co21, .int .i64 t110] 27 (0, 0)) (by (with_reducible repeat first | apply blk_drewN | apply blk_drew | apply blk_alloc); exact BK113.out) hb)
            have n6_ := Aside0.mk (blk_below (g := gb118) (o := .cells #[.slice Ao27 t114.length co27, .int .i64 t117] 27 (0, 0)) (by (with_reducible repeat first | apply blk_drewN | apply blk_drew | apply blk_alloc); exact BK118.out) hb)
            have n7_ := Aside0.mk (blk_below (g := gb125) (o := .cells #[.slice Ao33 t119.length co33, .int .i64 t122] 27 (0, 0)) (by (with_reducible repeat first | apply blk_drewN | apply blk_drew | apply blk_alloc); exact BK125.out) hb)
            have n8_ := Aside0.mk (below_step (by repeat (first | (with_reducible first | exact HB.out | apply below_alloc | apply pw_below_drewN | apply below_drew1 | refine below_set ?_ GE101.out | refine below_set ?_ GE113.out | refine below_set ?_ GE118.out | refine below_set ?_ GE125.out) | exact HB.out)) hb)
            clear HO_114000
            clear HO_119000
            clear HO_126000
            clear HO129
            clear BK101
            clear BK113
            clear BK118
            clear BK125
            clear HB
            have HO_114000 := n0_
            have HO_119000 := n1_
            have HO_126000 := n2_
            have HO129 := n3_
            have BK101 := n4_
            have BK113 := n5_
            have BK118 := n6_
            have BK125 := n7_
            have HB := n8_
            clear n0_ n1_ n2_ n3_ n4_ n5_ n6_ n7_ n8_
            (try clear hb)
            (try clear hb2)
            (try clear hk)
            (try clear hi)
            refine hK.out _ _ ⟨(blk_cell BK118.out 0).trans rfl, (blk_cell BK118.out 1).trans rfl, (blk_cell BK101.out 0).trans rfl, (blk_cell BK101.out 1).trans rfl⟩ (fun hHeld => ?_)
            clear hK K
            refine norm_ (a' := ?_) ?_ ?_
            rotate_left
            · show Act.put _ (some 58) _ = _
              simp only [Act.put, List.setIfInBounds_toArray, List.set_cons_zero, List.set_cons_succ, i64_w, i32_w]
              rfl
            refine pure_ (i := 4) (N := some 59) (v := ?_) (a' := ?_) #[true, true, true, true, true] rfl rfl (by kernel_rfl) (fun _ _ _ h => h) (Or.inl ⟨by rfl, ?_⟩) ?_ ?_
            rotate_left
            · intro w'
              go_simp
              with_reducible rfl
            rotate_left
            · simp only [Act.put, List.setIfInBounds_toArray, List.set_cons_zero, List.set_cons_succ, i64_w, i32_w]
              rfl
            refine done_ (by kernel_rfl) ?_
            try go_wp2
            go_ret
            exact ⟨by first | rfl | (simp [errW_none, errW_some] <;> rfl) | (simp [*, errW_none, errW_some] <;> rfl), by repeat (first | (with_reducible first | exact HB.out | apply below_alloc | apply pw_below_drewN | apply below_drew1 | refine below_set ?_ GE101.out | refine below_set ?_ GE113.out | refine below_set ?_ GE118.out | refine below_set ?_ GE125.out) | exact HB.out)⟩

end Go.Proofs.Ytadfjldepombnaa.P

/- Reading of arguments by kind: what the row's reader can read is a value of the printed kind. -/
namespace Go.Proofs.Ytadfjldepombnaa.Opn
open Go.RowKit Go.Proofs.YtadfjldepombnaaW.PrintWords

structure Opens {α : Type} (P : Program) (t : TypeId) (d : Kd α) (wf : α → Prop) : Prop where
  out : ∀ {H : Type} (enc : TypeId × Value → H) (W : World) (fuel : Nat) (cs : List Value) (x : DataW H × List MemPlace),
    DataW.trod enc P W 0 (fun _ => true) true fuel t cs = some x → ∃ y, d.K W y cs ∧ wf y

def wfI (x : Int) : Prop := -9223372036854775808 ≤ x ∧ x ≤ 9223372036854775807
def wfB (_ : Bool) : Prop := True
def wfS (x : ByteArray) : Prop := x.size ≤ 9223372036854775807
def wfL {α : Type} (wf : α → Prop) (l : List α) : Prop := l.length ≤ 9223372036854775807 ∧ ∀ x, x ∈ l → wf x

theorem wfI_of {x : Int} (hw : (Lit.int .i64 x).wf = true) : wfI x := by
  simp [Lit.wf] at hw
  exact ⟨by simpa [IntKind.min, IntKind.signed, IntKind.bits] using hw.1, by simpa [IntKind.max, IntKind.signed, IntKind.bits] using hw.2⟩
theorem opens_int {P : Program} {t : TypeId} (h : P.underlying t = some (.int .i64)) : Opens P t (Kd.int .i64) wfI := by
  refine ⟨?_⟩
  intro H enc W fuel cs x hx
  obtain ⟨n, rfl, _, hw⟩ := DataW.trod_int h hx
  exact ⟨n, rfl, wfI_of hw⟩
theorem opens_bool {P : Program} {t : TypeId} (h : P.underlying t = some .bool) : Opens P t Kd.bool wfB := by
  refine ⟨?_⟩
  intro H enc W fuel cs x hx
  obtain ⟨b, rfl, _⟩ := DataW.trod_bool h hx
  exact ⟨b, rfl, trivial⟩
theorem opens_string {P : Program} {t : TypeId} (h : P.underlying t = some .string) : Opens P t Kd.string wfS := by
  refine ⟨?_⟩
  intro H enc W fuel cs x hx
  obtain ⟨b, rfl, _, hs⟩ := DataW.trod_string h hx
  exact ⟨b, rfl, hs⟩

theorem add_add_ (ad : Addr) (m j : Nat) : (ad.add m).add j = ad.add (m + j) := by
  unfold Addr.add
  by_cases hm : m = 0
  · subst hm; simp
  · by_cases hj : j = 0
    · subst hj; simp [hm]
    · simp [hm, hj, Nat.add_assoc]

theorem opens_slice {P : Program} {t e : TypeId} {α : Type} {d : Kd α} {wf : α → Prop} (h : P.underlying t = some (.slice e)) (hsz : P.cellsOf e = d.sz) (ho : Opens P e d wf) : Opens P t (Kd.slice e d) (wfL wf) := by
  refine ⟨?_⟩
  intro H enc W fuel cs x hx
  rcases DataW.trod_slice h hx with ⟨rfl, _⟩ | ⟨a, len, cap, elems, rest, n, _, rfl, _, _, hl, hm, hlen, hel, _, _⟩
  · exact ⟨[], ⟨none, 0, rfl, Nat.le_refl _, rfl, by simp, fun hp => absurd hp (by simp)⟩, by simp, fun x hx => by simp at hx⟩
  · have hm' : len ≤ 9223372036854775807 := by simp only [maxLen] at hm; omega
    have each : ∀ i, i < len → ∃ y c, c.length = d.sz ∧ d.K W y c ∧ wf y ∧ ∀ j u, c[j]? = some u → W.cell? (a.add (i * d.sz + j)) = some u := by
      intro i hi
      have h1 := hel i hi
      rw [List.getElem?_eq_getElem (by omega)] at h1
      obtain ⟨c, hc, hd⟩ := Option.bind_eq_some_iff.1 h1
      obtain ⟨y, hy, hw⟩ := ho.out enc W n c _ hd
      obtain ⟨_, hcl, hcc⟩ := World.cells?_some hc
      refine ⟨y, c, by rw [hcl, hsz], hy, hw, fun j u hu => ?_⟩
      have hj : j < P.cellsOf e := by have := (List.getElem?_eq_some_iff.1 hu).1; omega
      have := hcc j hj
      rw [hu, add_add_, hsz] at this
      exact this
    have build : ∀ k, k ≤ len → ∃ ys : List α, ys.length = k ∧ (∀ y, y ∈ ys → wf y) ∧ ∀ j p, ys[j]? = some p → ∃ c, c.length = d.sz ∧ d.K W p c ∧ ∀ i u, c[i]? = some u → W.cell? (a.add (j * d.sz + i)) = some u := by
      intro k
      induction k with
      | zero => intro _; exact ⟨[], rfl, by simp, by simp⟩
      | succ k ih =>
        intro hk
        obtain ⟨ys, hlys, hw, hy⟩ := ih (by omega)
        obtain ⟨y, c, hcl, hK, hwy, hcell⟩ := each k (by omega)
        refine ⟨ys ++ [y], by simp [hlys], fun z hz => ?_, fun j p hp => ?_⟩
        · rcases List.mem_append.1 hz with hz | hz
          · exact hw z hz
          · rw [List.mem_singleton.1 hz]; exact hwy
        · rcases Nat.lt_or_ge j ys.length with hj | hj
          · rw [List.getElem?_append_left hj] at hp
            exact hy j p hp
          · have hj' : j = ys.length := by
              have := (List.getElem?_eq_some_iff.1 hp).1
              simp at this
              omega
            subst hj'
            have hp' : y = p := by simpa using hp
            subst hp'
            rw [hlys]
            exact ⟨c, hcl, hK, hcell⟩
    obtain ⟨ys, hlys, hw, hy⟩ := build len (Nat.le_refl _)
    subst hlys
    exact ⟨ys, ⟨some a, cap, rfl, hl, rfl, hm', fun _ => ⟨a, rfl, hy⟩⟩, hm', hw⟩

/-- the fields of a struct from an offset on -/
structure OpensF {α : Type} (P : Program) (fs : List Field) (off : Nat) (d : Kd α) (wf : α → Prop) : Prop where
  out : ∀ {H : Type} (enc : TypeId × Value → H) (W : World) (fuel : Nat) (cs : List Value), cs.length = off + d.sz →
    (∀ (i : Nat) (f : Field), fs[i]? = some f → ∃ y, DataW.trod enc P W 0 (fun _ => true) true fuel f.type ((cs.drop f.offset).take (P.cellsOf f.type)) = some y) →
    ∃ y, d.K W y (cs.drop off) ∧ wf y

theorem opens_last {P : Program} {f : Field} {off : Nat} {α : Type} {d : Kd α} {wf : α → Prop} (hoff : f.offset = off) (hsz : P.cellsOf f.type = d.sz) (ho : Opens P f.type d wf) : OpensF P [f] off d wf := by
  refine ⟨?_⟩
  intro H enc W fuel cs hl hf
  obtain ⟨y, hy⟩ := hf 0 f rfl
  rw [hoff, hsz, List.take_of_length_le (by rw [List.length_drop]; omega)] at hy
  exact ho.out enc W fuel _ _ hy

theorem opens_cons {P : Program} {f : Field} {fs : List Field} {off : Nat} {α β : Type} {a : Kd α} {b : Kd β} {wa : α → Prop} {wb : β → Prop} (hoff : f.offset = off) (hsz : P.cellsOf f.type = a.sz)
    (ha : Opens P f.type a wa) (hb : OpensF P fs (off + a.sz) b wb) : OpensF P (f :: fs) off (Kd.pair a b) (fun x => wa x.1 ∧ wb x.2) := by
  refine ⟨?_⟩
  intro H enc W fuel cs hl hf
  have hl' : cs.length = off + (a.sz + b.sz) := hl
  obtain ⟨y, hy⟩ := hf 0 f rfl
  rw [hoff, hsz] at hy
  obtain ⟨p, hp, hwp⟩ := ha.out enc W fuel _ _ hy
  obtain ⟨q, hq, hwq⟩ := hb.out enc W fuel cs (by omega) (fun i g hg => hf (i + 1) g (by simpa using hg))
  refine ⟨(p, q), ⟨(cs.drop off).take a.sz, cs.drop (off + a.sz), ?_, hp, hq⟩, hwp, hwq⟩
  rw [← List.drop_drop, List.take_append_drop]

theorem opens_struct {P : Program} {t : TypeId} {fs : Array Field} {α β : Type} {d : Kd α} {f : β → α} {wf : α → Prop} (hT : P.underlying t = some (.struct fs)) (hsz : P.cellsOf t = d.sz) (g : α → β) (hg : ∀ y, f (g y) = y)
    (ho : OpensF P fs.toList 0 d wf) : Opens P t (Kd.iso d f) (fun x => wf (f x)) := by
  refine ⟨?_⟩
  intro H enc W fuel cs x hx
  obtain ⟨xs, n, _, _, hl, hlen, hf⟩ := DataW.trod_struct hT hx
  obtain ⟨y, hy, hw⟩ := ho.out enc W n cs (by omega) (fun i q hq => ⟨_, (hf i q (by simpa using hq)).trans (List.getElem?_eq_getElem (by
    have := (List.getElem?_eq_some_iff.1 hq).1
    simp at this hlen
    omega))⟩)
  refine ⟨g y, ?_, ?_⟩
  · show d.K W (f (g y)) cs
    rw [hg]
    exact hy
  · show wf (f (g y))
    rw [hg]
    exact hw

end Go.Proofs.Ytadfjldepombnaa.Opn

namespace Go.Proofs.Ytadfjldepombnaa.P
open Go.RowKit Go.Proofs.YtadfjldepombnaaW.PrintWords Go.Proofs.YtadfjldepombnaaW.PrintLast Go.Proofs.YtadfjldepombnaaW.PrintMore Go.Proofs.Ytadfjldepombnaa.Opn
set_option linter.unusedVariables false

theorem opens3 : Opens Try.prog 3 (Kd.int .i64) wfI := opens_int Try.underlying3
theorem opens22 : Opens Try.prog 22 (Kd.slice 3 (Kd.int .i64)) (wfL wfI) := opens_slice Try.underlying22 (by kernel_rfl) opens3
def wf24 (x : S24) : Prop := (wfL wfI) x.f0 ∧ wfI x.f1
theorem opens24 : Opens Try.prog 24 k24 wf24 := by
  have h := opens_struct (f := (fun x : S24 => (x.f0, x.f1))) Try.underlying24 (by kernel_rfl) (fun y => ⟨y.1, y.2⟩) (fun _ => rfl) (opens_cons rfl (by kernel_rfl) opens22 (opens_last rfl (by kernel_rfl) opens3))
  exact ⟨h.out⟩

end Go.Proofs.Ytadfjldepombnaa.P

namespace Go.Proofs.Ytadfjldepombnaa.P
open Go.RowKit Go.Proofs.YtadfjldepombnaaW.PrintWords Go.Proofs.YtadfjldepombnaaW.PrintLast Go.Proofs.YtadfjldepombnaaW.PrintMore Go.Proofs.Ytadfjldepombnaa.Opn
set_option linter.unusedVariables false

def laws_FnExactRoundsOf.Pure : Prop := ∀ (l0_0 : List Int) (a0_1 : Int) (a1 : Int), (wfL wfI) l0_0 → wfI a0_1 → wfI a1 → ∃ k, laws_FnExactRoundsOf.f k l0_0 a0_1 a1 = some true

end Go.Proofs.Ytadfjldepombnaa.P

namespace Go.Proofs.Ytadfjldepombnaa.Pure
open Go.RowKit Go.Proofs.Ytadfjldepombnaa.P Go.Proofs.YtadfjldepombnaaW.PrintWords Go.Proofs.YtadfjldepombnaaW.PrintLast Go.Proofs.Ytadfjldepombnaa.Opn
set_option linter.unusedVariables false
set_option linter.unusedSimpArgs false

theorem wrap_id {x : Int} (h0 : -9223372036854775808 ≤ x) (h1 : x ≤ 9223372036854775807) : wrap64 x = x := by
  unfold wrap64
  omega
theorem rd_nat (l : List Int) (i : Nat) (h : i < l.length) : rd l (i : Int) = l[i] := by
  simp [rd, List.getD_eq_getElem?_getD, List.getElem?_eq_getElem h]
theorem drop_rd (l : List Int) (i : Nat) (h : i < l.length) : l.drop i = rd l (i : Int) :: l.drop (i + 1) := by
  rw [List.drop_eq_getElem_cons h, rd_nat l i h]
theorem take_rd (l : List Int) (i : Nat) (h : i < l.length) : l.take (i + 1) = l.take i ++ [rd l (i : Int)] := by
  rw [List.take_succ_eq_append_getElem h, rd_nat l i h]
theorem take_set_succ {α : Type} (l : List α) (i : Nat) (h : i < l.length) (v : α) : (l.set i v).take (i + 1) = l.take i ++ [v] := by
  rw [List.take_succ_eq_append_getElem (by simpa using h)]
  rw [List.getElem_set_self, List.take_set_of_le (Nat.le_refl i)]
theorem round {k d : Nat} (h : d < k) : ∃ m, k = m + 1 := ⟨k - 1, by omega⟩
def marks (a : Int) : Nat → List Int
  | 0 => []
  | n + 1 => a :: marks (a + 1) n
theorem marks_length (a : Int) (n : Nat) : (marks a n).length = n := by
  induction n generalizing a with
  | zero => rfl
  | succ n ih => simp [marks, ih]
theorem marks_rd (n : Nat) : ∀ (a : Int) (i : Nat), i < n → rd (marks a n) (i : Int) = a + i := by
  induction n with
  | zero => intro a i h; omega
  | succ n ih =>
    intro a i h
    cases i with
    | zero => simp [marks, rd]
    | succ i =>
      have := ih (a + 1) i (by omega)
      simp only [marks, rd, Int.toNat_natCast, List.getD_cons_succ] at this ⊢
      rw [this]
      push_cast
      omega
theorem marks_snoc (n : Nat) : ∀ (a : Int), marks a (n + 1) = marks a n ++ [a + n] := by
  induction n with
  | zero => intro a; simp [marks]
  | succ n ih =>
    intro a
    rw [marks, ih (a + 1)]
    simp only [marks, List.cons_append, List.cons.injEq, true_and]
    congr 2
    push_cast
    omega

end Go.Proofs.Ytadfjldepombnaa.Pure

namespace Go.Proofs.Ytadfjldepombnaa.Pure
open Go.RowKit Go.Proofs.Ytadfjldepombnaa.P Go.Proofs.YtadfjldepombnaaW.PrintWords Go.Proofs.YtadfjldepombnaaW.PrintLast Go.Proofs.Ytadfjldepombnaa.Opn
set_option linter.unusedVariables false
set_option linter.unusedSimpArgs false

theorem toIntS_l0 (x : List Int) (hn : x.length ≤ 1048576) : ∀ (d k i : Nat) (y : List Int), i + d = x.length → d < k → y.length = x.length → y.take i = x.take i → laws_toIntS.l0 k x y (i : Int) = some x := by
  intro d
  induction d with
  | zero =>
    intro k i y hi hk hy ht
    obtain ⟨k, rfl⟩ := round hk
    simp only [laws_toIntS.l0]
    rw [if_neg (by omega)]
    have : i = x.length := by omega
    subst this
    rw [List.take_length, ← hy, List.take_length] at ht
    rw [ht]
  | succ d ih =>
    intro k i y hi hk hy ht
    obtain ⟨k, rfl⟩ := round hk
    simp only [laws_toIntS.l0]
    rw [if_pos (by omega), if_pos (by omega), if_pos (by omega), wrap_id (by omega) (by omega), Int.toNat_natCast]
    have := ih k (i + 1) (y.set i (rd x i)) (by omega) (by omega) (by simpa using hy) (by rw [take_set_succ _ _ (by omega), ht, take_rd _ _ (by omega)])
    simpa using this
theorem toIntS (x : List Int) (hn : x.length ≤ 1048576) (k : Nat) (hk : x.length < k) : laws_toIntS.f k x = some x := by
  unfold laws_toIntS.f
  rw [if_pos (by omega), if_pos (by omega), Int.toNat_natCast]
  exact toIntS_l0 x hn x.length k 0 _ (by omega) hk (by simp) (by simp)
theorem eqIntS_l0 (x y : List Int) (hn : x.length ≤ 1048576) (he : x.length = y.length) : ∀ (d k i : Nat), i + d = x.length → d < k → x.take i = y.take i → laws_eqIntS.l0 k x y (i : Int) = some (decide (x = y)) := by
  intro d
  induction d with
  | zero =>
    intro k i hi hk ht
    obtain ⟨k, rfl⟩ := round hk
    simp only [laws_eqIntS.l0]
    rw [if_neg (by omega)]
    have : i = x.length := by omega
    subst this
    rw [List.take_length, he, List.take_length] at ht
    simp [ht]
  | succ d ih =>
    intro k i hi hk ht
    obtain ⟨k, rfl⟩ := round hk
    simp only [laws_eqIntS.l0]
    rw [if_pos (by omega), if_pos (by omega), if_pos (by omega)]
    by_cases hc : rd x (i : Int) = rd y (i : Int)
    · rw [if_pos hc, wrap_id (by omega) (by omega)]
      have := ih k (i + 1) (by omega) (by omega) (by rw [take_rd _ _ (by omega), take_rd _ _ (by omega), ht, hc])
      simpa using this
    · rw [if_neg hc]
      have : x ≠ y := by rintro rfl; exact hc rfl
      simp [this]
theorem eqIntS (x y : List Int) (hn : x.length ≤ 1048576) (k : Nat) (hk : x.length < k) : laws_eqIntS.f k x y = some (decide (x = y)) := by
  unfold laws_eqIntS.f
  by_cases he : x.length = y.length
  · rw [if_pos (by omega)]
    exact eqIntS_l0 x y hn he x.length k 0 (by omega) hk (by simp)
  · rw [if_neg (by omega)]
    have : x ≠ y := by rintro rfl; exact he rfl
    simp [this]

end Go.Proofs.Ytadfjldepombnaa.Pure

namespace Go.Proofs.Ytadfjldepombnaa.Pure
open Go.RowKit Go.Proofs.Ytadfjldepombnaa.P Go.Proofs.YtadfjldepombnaaW.PrintWords Go.Proofs.YtadfjldepombnaaW.PrintLast Go.Proofs.Ytadfjldepombnaa.Opn
set_option linter.unusedVariables false
set_option linter.unusedSimpArgs false

theorem szIntS (l : List Int) (a : Int) (ha : 0 ≤ a) (ha2 : a ≤ 1048576) (hl : l.length ≤ 9223372036854775807) : laws_szIntS.f l a = some (if (l.length : Int) ≤ a then a - l.length else -1) := by
  unfold laws_szIntS.f
  rw [wrap_id (by omega) (by omega)]
  by_cases h : (l.length : Int) ≤ a
  · rw [if_neg (by omega), if_pos h]
  · rw [if_pos (by omega), if_neg h]

end Go.Proofs.Ytadfjldepombnaa.Pure

namespace Go.Proofs.Ytadfjldepombnaa.Pure
open Go.RowKit Go.Proofs.Ytadfjldepombnaa.P Go.Proofs.YtadfjldepombnaaW.PrintWords Go.Proofs.YtadfjldepombnaaW.PrintLast Go.Proofs.Ytadfjldepombnaa.Opn
set_option linter.unusedVariables false
set_option linter.unusedSimpArgs false

theorem spec_in (a b c : Int) : spec_l1In.f a b c = some (decide (b ≤ a ∧ a ≤ c)) := by
  unfold spec_l1In.f
  by_cases h : a ≥ b
  · rw [if_pos h]
    by_cases h2 : a ≤ c
    · simp [h, h2]
    · simp [h2]
  · rw [if_neg h]
    have : ¬ b ≤ a := by omega
    simp [this]
theorem impl_in_ (a b c : Int) : impl_in.f a b c = some (decide (b ≤ a ∧ a ≤ c)) := spec_in a b c

end Go.Proofs.Ytadfjldepombnaa.Pure
