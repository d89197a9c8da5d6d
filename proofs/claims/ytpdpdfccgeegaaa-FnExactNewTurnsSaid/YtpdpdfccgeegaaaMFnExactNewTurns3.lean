/- FnExactNewTurns: for every input that can be read, the law returns true and its arguments read as before. Conditions: none beyond the row's own. (Part 4 of 5: contracts made by pw.py with the kit's print, contracts by hand, plain laws, the row.) -/
import Derived.Test.YtpdpdfccgeegaaaMFnExactNewTurns2
import Derived.Test.YtpdpdfccgeegaaaWWords
import Derived.ChangeArms
import Derived.ChangeSame
import Derived.ChangeSlices
import Derived.WideShapes
import Derived.ProofKit
import Derived.KernelRfl

namespace Go.Proofs.Ytpdpdfccgeegaaa.P
open Go.RowKit Go.Proofs.YtpdpdfccgeegaaaW.PrintWords Go.Proofs.YtpdpdfccgeegaaaW.PrintLast Go.Proofs.YtpdpdfccgeegaaaW.PrintMore
attribute [local go_sem] max2_int min2_int max_two min_two max_three min_three max_four min_four
set_option linter.unusedVariables false
set_option linter.unusedSimpArgs false

/-! ### laws_FnExactNewTurns: function 3 -/
mutual
def laws_FnExactNewTurns.j0 : Nat → List Int → Bool → List Int → Bool → Bool → List Int → List (List Int) → List Int → List Int → Int → List Int → List (List Int) → List Int → List Int → Int → Option (Bool)
  | 0, _, _, _, _, _, _, _, _, _, _, _, _, _, _, _ => none
  | k + 1, x0, x4, x5, x7, x37, x119000, x119001, x119002, x119003, x119004, x137000, x137001, x137002, x137003, x137004 => if x37 = true then (some false) else ((laws_toIntS.f k x0).bind fun t138 => ((laws_eqIntS.f k x5 t138).bind fun t141 => (if t141 = true then ((laws_markIntS.f k x5 1).bind fun bt142 => (if bt142.1 < 0 then (laws_FnExactNewTurns.j1 k x0 x4 true x119000 x119001 x119002 x119003 x119004 x137000 x137001 x137002 x137003 x137004) else ((laws_eqTurns.f k x137000 x137001 x137002 x137003 x137004 x119000 x119001 x119002 x119003 x119004).bind fun t144 => (if t144 = true then (laws_FnExactNewTurns.j1 k x0 x4 (x7 != x4) x119000 x119001 x119002 x119003 x119004 x137000 x137001 x137002 x137003 x137004) else (laws_FnExactNewTurns.j1 k x0 x4 true x119000 x119001 x119002 x119003 x119004 x137000 x137001 x137002 x137003 x137004))))) else (some false))))
def laws_FnExactNewTurns.j1 : Nat → List Int → Bool → Bool → List Int → List (List Int) → List Int → List Int → Int → List Int → List (List Int) → List Int → List Int → Int → Option (Bool)
  | 0, _, _, _, _, _, _, _, _, _, _, _, _, _ => none
  | k + 1, x0, x4, x58, x119000, x119001, x119002, x119003, x119004, x137000, x137001, x137002, x137003, x137004 => if x58 = true then (some false) else ((laws_markTurns.f k x137000 x137001 x137002 x137003 x137004 1).bind fun bt145 => ((laws_heldTurns.f k bt145.2.1 x137001 bt145.2.2.1 bt145.2.2.2 x137004 1).bind fun t149 => (if t149 < 0 then (some false) else (if t149 = bt145.1 then ((laws_toIntS.f k x0).bind fun t150 => ((impl_NewTurns.f t150).bind fun bt153 => ((laws_eqTurns.f k bt153.1 bt153.2.1 bt153.2.2.1 bt153.2.2.2.1 bt153.2.2.2.2.1 x119000 x119001 x119002 x119003 x119004).bind fun t168 => (if t168 = true then (laws_FnExactNewTurns.j2 k bt145.1 (bt153.2.2.2.2.2 != x4) bt145.2.1 x137001 bt145.2.2.1 bt145.2.2.2 x137004) else (laws_FnExactNewTurns.j2 k bt145.1 true bt145.2.1 x137001 bt145.2.2.1 bt145.2.2.2 x137004))))) else (some false)))))
def laws_FnExactNewTurns.j2 : Nat → Int → Bool → List Int → List (List Int) → List Int → List Int → Int → Option (Bool)
  | 0, _, _, _, _, _, _, _ => none
  | k + 1, x9, x84, x137000, x137001, x137002, x137003, x137004 => if x84 = true then (some false) else ((laws_heldTurns.f k x137000 x137001 x137002 x137003 x137004 1).bind fun t169 => (if t169 < 0 then (some false) else (if t169 = x9 then (some true) else (some false))))
end
def laws_FnExactNewTurns.f (k : Nat) (l0 : List Int) : Option (Bool) := if (l0.length : Int) > 1048576 then (some true) else ((laws_toIntS.f k l0).bind fun t101 => ((spec_NewTurns.f k t101).bind fun bt104 => ((laws_toIntS.f k l0).bind fun t119 => ((impl_NewTurns.f t119).bind fun bt122 => ((laws_eqTurns.f k bt122.1 bt122.2.1 bt122.2.2.1 bt122.2.2.2.1 bt122.2.2.2.2.1 bt104.1 bt104.2.1 bt104.2.2.1 bt104.2.2.2.1 bt104.2.2.2.2.1).bind fun t137 => (if t137 = true then (laws_FnExactNewTurns.j0 k l0 bt104.2.2.2.2.2 t119 bt122.2.2.2.2.2 (bt122.2.2.2.2.2 != bt104.2.2.2.2.2) bt104.1 bt104.2.1 bt104.2.2.1 bt104.2.2.2.1 bt104.2.2.2.2.1 bt122.1 bt122.2.1 bt122.2.2.1 bt122.2.2.2.1 bt122.2.2.2.2.1) else (laws_FnExactNewTurns.j0 k l0 bt104.2.2.2.2.2 t119 bt122.2.2.2.2.2 true bt104.1 bt104.2.1 bt104.2.2.1 bt104.2.2.2.1 bt104.2.2.2.2.1 bt122.1 bt122.2.1 bt122.2.2.1 bt122.2.2.2.1 bt122.2.2.2.2.1)))))))
theorem laws_FnExactNewTurns.mono_l : ∀ k, (∀ y0 y1 y2 y3 y4 y5 y6 y7 y8 y9 y10 y11 y12 y13 y14, LeO (laws_FnExactNewTurns.j0 k y0 y1 y2 y3 y4 y5 y6 y7 y8 y9 y10 y11 y12 y13 y14) (laws_FnExactNewTurns.j0 (k + 1) y0 y1 y2 y3 y4 y5 y6 y7 y8 y9 y10 y11 y12 y13 y14)) ∧ (∀ y0 y1 y2 y3 y4 y5 y6 y7 y8 y9 y10 y11 y12, LeO (laws_FnExactNewTurns.j1 k y0 y1 y2 y3 y4 y5 y6 y7 y8 y9 y10 y11 y12) (laws_FnExactNewTurns.j1 (k + 1) y0 y1 y2 y3 y4 y5 y6 y7 y8 y9 y10 y11 y12)) ∧ (∀ y0 y1 y2 y3 y4 y5 y6, LeO (laws_FnExactNewTurns.j2 k y0 y1 y2 y3 y4 y5 y6) (laws_FnExactNewTurns.j2 (k + 1) y0 y1 y2 y3 y4 y5 y6))
  | 0 => ⟨fun _ _ _ _ _ _ _ _ _ _ _ _ _ _ _ r h => by simp [laws_FnExactNewTurns.j0] at h, fun _ _ _ _ _ _ _ _ _ _ _ _ _ r h => by simp [laws_FnExactNewTurns.j1] at h, fun _ _ _ _ _ _ _ r h => by simp [laws_FnExactNewTurns.j2] at h⟩
  | k + 1 => by
    obtain ⟨ih0, ih1, ih2⟩ := laws_FnExactNewTurns.mono_l k
    refine ⟨?_, ?_, ?_⟩
    · intro y0 y1 y2 y3 y4 y5 y6 y7 y8 y9 y10 y11 y12 y13 y14
      unfold laws_FnExactNewTurns.j0
      repeat' first
      | (with_reducible exact ih0 _ _ _ _ _ _ _ _ _ _ _ _ _ _ _)
      | (with_reducible exact ih1 _ _ _ _ _ _ _ _ _ _ _ _ _)
      | (with_reducible exact ih2 _ _ _ _ _ _ _)
      | (with_reducible exact laws_eqIntS.mono _ _ _)
      | (with_reducible exact laws_eqTurns.mono _ _ _ _ _ _ _ _ _ _ _)
      | (with_reducible exact laws_heldTurns.mono _ _ _ _ _ _ _)
      | (with_reducible exact laws_markIntS.mono _ _ _)
      | (with_reducible exact laws_markTurns.mono _ _ _ _ _ _ _)
      | (with_reducible exact laws_toIntS.mono _ _)
      | (with_reducible exact spec_NewTurns.mono _ _)
      | (with_reducible exact LeO.refl _)
      | (with_reducible exact LeO.none _)
      | (with_reducible refine LeO.ite ?_ ?_)
      | (with_reducible refine LeO.bind ?_ (fun _ => ?_))
      | exact ih0 _ _ _ _ _ _ _ _ _ _ _ _ _ _ _
      | exact ih1 _ _ _ _ _ _ _ _ _ _ _ _ _
      | exact ih2 _ _ _ _ _ _ _
      | exact laws_eqIntS.mono _ _ _
      | exact laws_eqTurns.mono _ _ _ _ _ _ _ _ _ _ _
      | exact laws_heldTurns.mono _ _ _ _ _ _ _
      | exact laws_markIntS.mono _ _ _
      | exact laws_markTurns.mono _ _ _ _ _ _ _
      | exact laws_toIntS.mono _ _
      | exact spec_NewTurns.mono _ _
      | exact LeO.none _
      | refine LeO.ite ?_ ?_
      | refine LeO.bind ?_ (fun _ => ?_)
    · intro y0 y1 y2 y3 y4 y5 y6 y7 y8 y9 y10 y11 y12
      unfold laws_FnExactNewTurns.j1
      repeat' first
      | (with_reducible exact ih0 _ _ _ _ _ _ _ _ _ _ _ _ _ _ _)
      | (with_reducible exact ih1 _ _ _ _ _ _ _ _ _ _ _ _ _)
      | (with_reducible exact ih2 _ _ _ _ _ _ _)
      | (with_reducible exact laws_eqIntS.mono _ _ _)
      | (with_reducible exact laws_eqTurns.mono _ _ _ _ _ _ _ _ _ _ _)
      | (with_reducible exact laws_heldTurns.mono _ _ _ _ _ _ _)
      | (with_reducible exact laws_markIntS.mono _ _ _)
      | (with_reducible exact laws_markTurns.mono _ _ _ _ _ _ _)
      | (with_reducible exact laws_toIntS.mono _ _)
      | (with_reducible exact spec_NewTurns.mono _ _)
      | (with_reducible exact LeO.refl _)
      | (with_reducible exact LeO.none _)
      | (with_reducible refine LeO.ite ?_ ?_)
      | (with_reducible refine LeO.bind ?_ (fun _ => ?_))
      | exact ih0 _ _ _ _ _ _ _ _ _ _ _ _ _ _ _
      | exact ih1 _ _ _ _ _ _ _ _ _ _ _ _ _
      | exact ih2 _ _ _ _ _ _ _
      | exact laws_eqIntS.mono _ _ _
      | exact laws_eqTurns.mono _ _ _ _ _ _ _ _ _ _ _
      | exact laws_heldTurns.mono _ _ _ _ _ _ _
      | exact laws_markIntS.mono _ _ _
      | exact laws_markTurns.mono _ _ _ _ _ _ _
      | exact laws_toIntS.mono _ _
      | exact spec_NewTurns.mono _ _
      | exact LeO.none _
      | refine LeO.ite ?_ ?_
      | refine LeO.bind ?_ (fun _ => ?_)
    · intro y0 y1 y2 y3 y4 y5 y6
      unfold laws_FnExactNewTurns.j2
      repeat' first
      | (with_reducible exact ih0 _ _ _ _ _ _ _ _ _ _ _ _ _ _ _)
      | (with_reducible exact ih1 _ _ _ _ _ _ _ _ _ _ _ _ _)
      | (with_reducible exact ih2 _ _ _ _ _ _ _)
      | (with_reducible exact laws_eqIntS.mono _ _ _)
      | (with_reducible exact laws_eqTurns.mono _ _ _ _ _ _ _ _ _ _ _)
      | (with_reducible exact laws_heldTurns.mono _ _ _ _ _ _ _)
      | (with_reducible exact laws_markIntS.mono _ _ _)
      | (with_reducible exact laws_markTurns.mono _ _ _ _ _ _ _)
      | (with_reducible exact laws_toIntS.mono _ _)
      | (with_reducible exact spec_NewTurns.mono _ _)
      | (with_reducible exact LeO.refl _)
      | (with_reducible exact LeO.none _)
      | (with_reducible refine LeO.ite ?_ ?_)
      | (with_reducible refine LeO.bind ?_ (fun _ => ?_))
      | exact ih0 _ _ _ _ _ _ _ _ _ _ _ _ _ _ _
      | exact ih1 _ _ _ _ _ _ _ _ _ _ _ _ _
      | exact ih2 _ _ _ _ _ _ _
      | exact laws_eqIntS.mono _ _ _
      | exact laws_eqTurns.mono _ _ _ _ _ _ _ _ _ _ _
      | exact laws_heldTurns.mono _ _ _ _ _ _ _
      | exact laws_markIntS.mono _ _ _
      | exact laws_markTurns.mono _ _ _ _ _ _ _
      | exact laws_toIntS.mono _ _
      | exact spec_NewTurns.mono _ _
      | exact LeO.none _
      | refine LeO.ite ?_ ?_
      | refine LeO.bind ?_ (fun _ => ?_)
theorem laws_FnExactNewTurns.mono : ∀ a0 k, LeO (laws_FnExactNewTurns.f k a0) (laws_FnExactNewTurns.f (k + 1) a0) := by
  intro a0 k
  obtain ⟨ih0, ih1, ih2⟩ := laws_FnExactNewTurns.mono_l k
  unfold laws_FnExactNewTurns.f
  repeat' first
      | (with_reducible exact ih0 _ _ _ _ _ _ _ _ _ _ _ _ _ _ _)
      | (with_reducible exact ih1 _ _ _ _ _ _ _ _ _ _ _ _ _)
      | (with_reducible exact ih2 _ _ _ _ _ _ _)
      | (with_reducible exact laws_eqIntS.mono _ _ _)
      | (with_reducible exact laws_eqTurns.mono _ _ _ _ _ _ _ _ _ _ _)
      | (with_reducible exact laws_heldTurns.mono _ _ _ _ _ _ _)
      | (with_reducible exact laws_markIntS.mono _ _ _)
      | (with_reducible exact laws_markTurns.mono _ _ _ _ _ _ _)
      | (with_reducible exact laws_toIntS.mono _ _)
      | (with_reducible exact spec_NewTurns.mono _ _)
      | (with_reducible exact LeO.refl _)
      | (with_reducible exact LeO.none _)
      | (with_reducible refine LeO.ite ?_ ?_)
      | (with_reducible refine LeO.bind ?_ (fun _ => ?_))
      | exact ih0 _ _ _ _ _ _ _ _ _ _ _ _ _ _ _
      | exact ih1 _ _ _ _ _ _ _ _ _ _ _ _ _
      | exact ih2 _ _ _ _ _ _ _
      | exact laws_eqIntS.mono _ _ _
      | exact laws_eqTurns.mono _ _ _ _ _ _ _ _ _ _ _
      | exact laws_heldTurns.mono _ _ _ _ _ _ _
      | exact laws_markIntS.mono _ _ _
      | exact laws_markTurns.mono _ _ _ _ _ _ _
      | exact laws_toIntS.mono _ _
      | exact spec_NewTurns.mono _ _
      | exact LeO.none _
      | refine LeO.ite ?_ ?_
      | refine LeO.bind ?_ (fun _ => ?_)
set_option maxHeartbeats 8000000 in
set_option maxRecDepth 100000 in
theorem laws_FnExactNewTurns.calls (k : Nat) (A0 : Option Addr) (c0 : Nat) (l0 : List Int) (r : Bool) (w : World) (hr0 : Kd.C (Kd.int .i64) w A0 l0.length l0) (hc0 : l0.length ≤ c0) (h : laws_FnExactNewTurns.f k l0 = some r) (hr_ : r = true := by rfl) :
  Calls Try.prog 3 #[.slice A0 l0.length c0] w fun e w' => e = .returned (.bool r) ∧ Below w.heap.size w w' := by
 have hu25 := Try.underlying25
 have HR0 := sA hr0
 have HC0 := sA hc0
 clear hr0 hc0
 have HB := sA (Below.refl w.heap.size w)
 have H : (if (l0.length : Int) > 1048576 then (some true) else ((laws_toIntS.f k l0).bind fun t101 => ((spec_NewTurns.f k t101).bind fun bt104 => ((laws_toIntS.f k l0).bind fun t119 => ((impl_NewTurns.f t119).bind fun bt122 => ((laws_eqTurns.f k bt122.1 bt122.2.1 bt122.2.2.1 bt122.2.2.2.1 bt122.2.2.2.2.1 bt104.1 bt104.2.1 bt104.2.2.1 bt104.2.2.2.1 bt104.2.2.2.2.1).bind fun t137 => (if t137 = true then (laws_FnExactNewTurns.j0 k l0 bt104.2.2.2.2.2 t119 bt122.2.2.2.2.2 (bt122.2.2.2.2.2 != bt104.2.2.2.2.2) bt104.1 bt104.2.1 bt104.2.2.1 bt104.2.2.2.1 bt104.2.2.2.2.1 bt122.1 bt122.2.1 bt122.2.2.1 bt122.2.2.2.1 bt122.2.2.2.2.1) else (laws_FnExactNewTurns.j0 k l0 bt104.2.2.2.2.2 t119 bt122.2.2.2.2.2 true bt104.1 bt104.2.1 bt104.2.2.1 bt104.2.2.2.1 bt104.2.2.2.2.1 bt122.1 bt122.2.1 bt122.2.2.1 bt122.2.2.2.1 bt122.2.2.2.2.1)))))))) = some r := h
 clear h
 by_cases c2 : (l0.length : Int) > 1048576
 ·rw [if_pos c2] at H
  have c2b0 : decide (1048576 < (l0.length : Int)) = true := decide_eq_true c2
  have c2b1 : decide (1048576 < l0.length) = true := decide_eq_true (by omega)
  clear c2
  obtain rfl := Option.some.inj H
  go_enter Try.func3, Try.ntmps3
  go_wp2
  go_ret
  exact ⟨by first | rfl | (simp [errW_none, errW_some] <;> rfl) | (simp [*, errW_none, errW_some] <;> rfl), by repeat (first | (with_reducible first | exact HB.out | apply sLA | apply sLN | apply sLD) | exact HB.out)⟩
 ·rw [if_neg c2] at H
  have c2b0 : decide (1048576 < (l0.length : Int)) = false := decide_eq_false c2
  have c2b1 : decide (1048576 < l0.length) = false := decide_eq_false (by omega)
  clear c2
  replace H := Option.bind_eq_some_iff.mp H
  obtain ⟨t101, A30, H⟩ := H
  replace H : ((spec_NewTurns.f k t101).bind fun bt104 => ((laws_toIntS.f k l0).bind fun t119 => ((impl_NewTurns.f t119).bind fun bt122 => ((laws_eqTurns.f k bt122.1 bt122.2.1 bt122.2.2.1 bt122.2.2.2.1 bt122.2.2.2.2.1 bt104.1 bt104.2.1 bt104.2.2.1 bt104.2.2.2.1 bt104.2.2.2.2.1).bind fun t137 => (if t137 = true then (laws_FnExactNewTurns.j0 k l0 bt104.2.2.2.2.2 t119 bt122.2.2.2.2.2 (bt122.2.2.2.2.2 != bt104.2.2.2.2.2) bt104.1 bt104.2.1 bt104.2.2.1 bt104.2.2.2.1 bt104.2.2.2.2.1 bt122.1 bt122.2.1 bt122.2.2.1 bt122.2.2.2.1 bt122.2.2.2.2.1) else (laws_FnExactNewTurns.j0 k l0 bt104.2.2.2.2.2 t119 bt122.2.2.2.2.2 true bt104.1 bt104.2.1 bt104.2.2.1 bt104.2.2.2.1 bt104.2.2.2.2.1 bt122.1 bt122.2.1 bt122.2.2.1 bt122.2.2.2.1 bt122.2.2.2.2.1)))))) = some r := H
  have A3 := sA A30
  clear A30
  replace H := Option.bind_eq_some_iff.mp H
  obtain ⟨⟨t104, t107, t110, t113, t116, t117⟩, A40, H⟩ := H
  replace H : ((laws_toIntS.f k l0).bind fun t119 => ((impl_NewTurns.f t119).bind fun bt122 => ((laws_eqTurns.f k bt122.1 bt122.2.1 bt122.2.2.1 bt122.2.2.2.1 bt122.2.2.2.2.1 t104 t107 t110 t113 t116).bind fun t137 => (if t137 = true then (laws_FnExactNewTurns.j0 k l0 t117 t119 bt122.2.2.2.2.2 (bt122.2.2.2.2.2 != t117) t104 t107 t110 t113 t116 bt122.1 bt122.2.1 bt122.2.2.1 bt122.2.2.2.1 bt122.2.2.2.2.1) else (laws_FnExactNewTurns.j0 k l0 t117 t119 bt122.2.2.2.2.2 true t104 t107 t110 t113 t116 bt122.1 bt122.2.1 bt122.2.2.1 bt122.2.2.2.1 bt122.2.2.2.2.1))))) = some r := H
  have A4 := sA A40
  clear A40
  replace H := Option.bind_eq_some_iff.mp H
  obtain ⟨t119, A50, H⟩ := H
  replace H : ((impl_NewTurns.f t119).bind fun bt122 => ((laws_eqTurns.f k bt122.1 bt122.2.1 bt122.2.2.1 bt122.2.2.2.1 bt122.2.2.2.2.1 t104 t107 t110 t113 t116).bind fun t137 => (if t137 = true then (laws_FnExactNewTurns.j0 k l0 t117 t119 bt122.2.2.2.2.2 (bt122.2.2.2.2.2 != t117) t104 t107 t110 t113 t116 bt122.1 bt122.2.1 bt122.2.2.1 bt122.2.2.2.1 bt122.2.2.2.2.1) else (laws_FnExactNewTurns.j0 k l0 t117 t119 bt122.2.2.2.2.2 true t104 t107 t110 t113 t116 bt122.1 bt122.2.1 bt122.2.2.1 bt122.2.2.2.1 bt122.2.2.2.2.1)))) = some r := H
  have A5 := sA A50
  clear A50
  replace H := Option.bind_eq_some_iff.mp H
  obtain ⟨⟨t122, t125, t128, t131, t134, t135⟩, A60, H⟩ := H
  replace H : ((laws_eqTurns.f k t122 t125 t128 t131 t134 t104 t107 t110 t113 t116).bind fun t137 => (if t137 = true then (laws_FnExactNewTurns.j0 k l0 t117 t119 t135 (t135 != t117) t104 t107 t110 t113 t116 t122 t125 t128 t131 t134) else (laws_FnExactNewTurns.j0 k l0 t117 t119 t135 true t104 t107 t110 t113 t116 t122 t125 t128 t131 t134))) = some r := H
  have A6 := sA A60
  clear A60
  have HC7 := sA H
  clear H
  go_enter Try.func3, Try.ntmps3
  go_upto_region 6 with (first | ((with_reducible refine gate_callee (f := 6) rfl ?_); refine goesL_ (some 18) rfl rfl Try.func6 (by kernel_rfl) rfl #[.slice A0 l0.length c0] rfl (by (try simp only [List.map_toArray, List.map_cons, List.map_nil]); first | done | rfl | (simp only [List.length_drop, List.length_take]; rfl)) ?_; (with_reducible refine (laws_toIntS.calls k _ _ l0 t101 _ ?side1 ?side2 A3.out).mono ?_); (case side1 => repeat (first | exact HR0.out | (with_reducible refine Kd.C_alloc ?_ _) | (with_reducible refine Kd.C_drewN ?_ _) | (with_reducible refine Kd.C_drew ?_))); (case side2 => exact HC0.out); rintro e w8 ⟨v102, rfl, ho0, hb⟩; refine ⟨_, rfl, ?_⟩; have n0_ := sA (Kd.R_lower ho0 (below_size (by repeat (first | (with_reducible first | exact HB.out | apply sLA | apply sLN | apply sLD) | exact HB.out)))); have n1_ := sA (below_step (by repeat (first | (with_reducible first | exact HB.out | apply sLA | apply sLN | apply sLD) | exact HB.out)) hb); clear HB; have HO103 := n0_; have HB := n1_; clear n0_ n1_; (try clear hb); (try clear hb2); (try clear hk); (try clear hi); (try clear ho0); obtain ⟨Ao9, co9, eo9⟩ := Kd.R_slice HO103.out; subst eo9) | ((with_reducible refine gate_callee (f := 5) rfl ?_); refine goesL_ (some 19) rfl rfl Try.func5 (by kernel_rfl) rfl #[.slice Ao9 t101.length co9] rfl (by (try simp only [List.map_toArray, List.map_cons, List.map_nil]); first | done | rfl | (simp only [List.length_drop, List.length_take]; rfl)) ?_; (with_reducible refine (spec_NewTurns.calls k _ _ t101 t104 t107 t110 t113 t116 t117 _ ?side1 ?side2 A4.out).mono ?_); (case side1 => repeat (first | exact (Kd.R_reads' HO103.out).2.2 | (with_reducible refine Kd.C_alloc ?_ _) | (with_reducible refine Kd.C_drewN ?_ _) | (with_reducible refine Kd.C_drew ?_))); (case side2 => exact (Kd.R_reads' HO103.out).2.1); rintro e w10 ⟨v105, v108, v111, v114, rfl, ho0, ho1, ho2, ho3, hb⟩; refine ⟨_, rfl, ?_⟩; have n0_ := sA (Kd.R_mono (Kd.R_told (Kd.R_told (Kd.R_told (Kd.R_old (sR HO103.out) hb) (Kd.R_base ho0)) (Kd.R_base ho2)) (Kd.R_base ho3)) (fun _ h_ => h_.1)); have n1_ := sA (Kd.R_lower (Kd.R_new' ho0 (Kd.R_lt (sR HO103.out))) (below_size (by repeat (first | (with_reducible first | exact HB.out | apply sLA | apply sLN | apply sLD) | exact HB.out)))); have n2_ := sA (Kd.S_lower (Kd.S_new' ho1 (Kd.R_lt (sR HO103.out))) (below_size (by repeat (first | (with_reducible first | exact HB.out | apply sLA | apply sLN | apply sLD) | exact HB.out)))); have n3_ := sA (Kd.R_lower (Kd.R_new' ho2 (Kd.R_lt (sR HO103.out))) (below_size (by repeat (first | (with_reducible first | exact HB.out | apply sLA | apply sLN | apply sLD) | exact HB.out)))); have n4_ := sA (Kd.R_lower (Kd.R_new' ho3 (Kd.R_lt (sR HO103.out))) (below_size (by repeat (first | (with_reducible first | exact HB.out | apply sLA | apply sLN | apply sLD) | exact HB.out)))); have n5_ := sA (below_step (by repeat (first | (with_reducible first | exact HB.out | apply sLA | apply sLN | apply sLD) | exact HB.out)) hb); clear HO103; clear HB; have HO103 := n0_; have HO106 := n1_; have HO109 := n2_; have HO112 := n3_; have HO115 := n4_; have HB := n5_; clear n0_ n1_ n2_ n3_ n4_ n5_; (try clear hb); (try clear hb2); (try clear hk); (try clear hi); (try clear ho0); (try clear ho1); (try clear ho2); (try clear ho3)) | ((with_reducible refine gate_dst (N := 3) rfl ?_); refine box_event ?hg (N := 3) ?hd (cs := #[.slice none 0 0, .slice none 0 0, .slice none 0 0, .slice none 0 0, .int .i64 0]) (t := 25) ?hr ?_; (case hd => rfl); (case hg => rfl); (case hr => first | (go_simp; done) | (go_simp; rfl)); intro gb118 hg w11 hbox hb; have n0_ := sA (Kd.R_below (sR HO103.out) hb); have n1_ := sA (Kd.R_below (sR HO106.out) hb); have n2_ := sA (Kd.S_below (by (with_reducible repeat (first | apply Kd.S_alloc | apply Kd.S_drewN | apply Kd.S_drew)); exact HO109.out) hb); have n3_ := sA (Kd.R_below (sR HO112.out) hb); have n4_ := sA (Kd.R_below (sR HO115.out) hb); have n5_ := sA (below_step (by repeat (first | (with_reducible first | exact HB.out | apply sLA | apply sLN | apply sLD) | exact HB.out)) hb); have n6_ := sA (hbox); have n7_ := sA ((by rw [hg]; exact (below_size (by repeat (first | (with_reducible first | exact HB.out | apply sLA | apply sLN | apply sLD) | exact HB.out))) : w.heap.size ≤ gb118)); have n8_ := sA ((by rw [hg]; exact (below_size (by repeat (first | (with_reducible first | exact HB.out | apply sLA | apply sLN | apply sLD) | exact HB.out))) : w.heap.size ≤ gb118)); clear HO103; clear HO106; clear HO109; clear HO112; clear HO115; clear HB; have HO103 := n0_; have HO106 := n1_; have HO109 := n2_; have HO112 := n3_; have HO115 := n4_; have HB := n5_; have BK118 := n6_; have GW118 := n7_; have GE118 := n8_; clear n0_ n1_ n2_ n3_ n4_ n5_ n6_ n7_ n8_; clear hb hbox hg; obtain ⟨Ao12, co12, eo12⟩ := Kd.R_slice HO106.out; subst eo12; have hcz13_0 : w11.cell? ⟨gb118, 0, none⟩ = some (.slice none 0 0) := sC BK118 0 rfl; have hcz13_1 : w11.cell? ⟨gb118, 1, none⟩ = some (.slice none 0 0) := sC BK118 1 rfl; have hcz13_2 : w11.cell? ⟨gb118, 2, none⟩ = some (.slice none 0 0) := sC BK118 2 rfl; have hcz13_3 : w11.cell? ⟨gb118, 3, none⟩ = some (.slice none 0 0) := sC BK118 3 rfl; have hcz13_4 : w11.cell? ⟨gb118, 4, none⟩ = some (.int .i64 0) := sC BK118 4 rfl; have hfz13_0 := blk_frozen BK118.out 0; have hfz13_1 := blk_frozen BK118.out 1; have hfz13_2 := blk_frozen BK118.out 2; have hfz13_3 := blk_frozen BK118.out 3; have hfz13_4 := blk_frozen BK118.out 4; obtain ⟨Ao14, co14, eo14⟩ := Kd.S_slice HO109.out; subst eo14; obtain ⟨Ao15, co15, eo15⟩ := Kd.R_slice HO112.out; subst eo15; obtain ⟨Ao16, co16, eo16⟩ := Kd.R_slice HO115.out; subst eo16) | ((with_reducible refine gate_callee (f := 6) rfl ?_); refine goesL_ (some 23) rfl rfl Try.func6 (by kernel_rfl) rfl #[.slice A0 l0.length c0] rfl (by (try simp only [List.map_toArray, List.map_cons, List.map_nil]); first | done | rfl | (simp only [List.length_drop, List.length_take]; rfl)) ?_; (with_reducible refine (laws_toIntS.calls k _ _ l0 t119 _ ?side1 ?side2 A5.out).mono ?_); (case side1 => exact Kd.C_below HR0.out (by repeat (first | (with_reducible first | exact HB.out | apply sLA | apply sLN | apply sLD | refine sLS ?_ GE118.out) | exact HB.out))); (case side2 => exact HC0.out); rintro e w17 ⟨v120, rfl, ho0, hb⟩; refine ⟨_, rfl, ?_⟩; have n0_ := sA (Kd.R_elder' (sR (Kd.R_mono (Kd.R_far (p := ⟨gb118, 4, none⟩) (Kd.R_far (p := ⟨gb118, 3, none⟩) (Kd.R_far (p := ⟨gb118, 2, none⟩) (Kd.R_far (p := ⟨gb118, 1, none⟩) (Kd.R_far (p := ⟨gb118, 0, none⟩) (Kd.R_types HO103.out BK118.out (by decide)) (fun _ hk => hk.2) (.slice Ao12 t104.length co12)) (fun _ hk => hk.2) (.slice Ao14 t107.length co14)) (fun _ hk => hk.2) (.slice Ao15 t110.length co15)) (fun _ hk => hk.2) (.slice Ao16 t113.length co16)) (fun _ hk => hk.2) (.int .i64 t116)) (fun _ h_ => h_.1))) (Kd.R_base ho0) hb); have n1_ := sA (Kd.R_elder' (sR (Kd.R_mono (Kd.R_far (p := ⟨gb118, 4, none⟩) (Kd.R_far (p := ⟨gb118, 3, none⟩) (Kd.R_far (p := ⟨gb118, 2, none⟩) (Kd.R_far (p := ⟨gb118, 1, none⟩) (Kd.R_far (p := ⟨gb118, 0, none⟩) (Kd.R_types HO106.out BK118.out (by decide)) (fun _ hk => hk.2) (.slice Ao12 t104.length co12)) (fun _ hk => hk.2) (.slice Ao14 t107.length co14)) (fun _ hk => hk.2) (.slice Ao15 t110.length co15)) (fun _ hk => hk.2) (.slice Ao16 t113.length co16)) (fun _ hk => hk.2) (.int .i64 t116)) (fun _ h_ => h_.1))) (Kd.R_base ho0) hb); have n2_ := sA (Kd.S_elder' (by (with_reducible repeat (first | apply Kd.S_alloc | apply Kd.S_drewN | apply Kd.S_drew)); exact (Kd.S_mono (Kd.S_far (p := ⟨gb118, 4, none⟩) (Kd.S_far (p := ⟨gb118, 3, none⟩) (Kd.S_far (p := ⟨gb118, 2, none⟩) (Kd.S_far (p := ⟨gb118, 1, none⟩) (Kd.S_far (p := ⟨gb118, 0, none⟩) (Kd.S_types HO109.out BK118.out (by decide)) (fun _ hk => hk.2) (.slice Ao12 t104.length co12)) (fun _ hk => hk.2) (.slice Ao14 t107.length co14)) (fun _ hk => hk.2) (.slice Ao15 t110.length co15)) (fun _ hk => hk.2) (.slice Ao16 t113.length co16)) (fun _ hk => hk.2) (.int .i64 t116)) (fun _ h_ => h_.1))) (Kd.R_base ho0) hb); have n3_ := sA (Kd.R_elder' (sR (Kd.R_mono (Kd.R_far (p := ⟨gb118, 4, none⟩) (Kd.R_far (p := ⟨gb118, 3, none⟩) (Kd.R_far (p := ⟨gb118, 2, none⟩) (Kd.R_far (p := ⟨gb118, 1, none⟩) (Kd.R_far (p := ⟨gb118, 0, none⟩) (Kd.R_types HO112.out BK118.out (by decide)) (fun _ hk => hk.2) (.slice Ao12 t104.length co12)) (fun _ hk => hk.2) (.slice Ao14 t107.length co14)) (fun _ hk => hk.2) (.slice Ao15 t110.length co15)) (fun _ hk => hk.2) (.slice Ao16 t113.length co16)) (fun _ hk => hk.2) (.int .i64 t116)) (fun _ h_ => h_.1))) (Kd.R_base ho0) hb); have n4_ := sA (Kd.R_elder' (sR (Kd.R_mono (Kd.R_far (p := ⟨gb118, 4, none⟩) (Kd.R_far (p := ⟨gb118, 3, none⟩) (Kd.R_far (p := ⟨gb118, 2, none⟩) (Kd.R_far (p := ⟨gb118, 1, none⟩) (Kd.R_far (p := ⟨gb118, 0, none⟩) (Kd.R_types HO115.out BK118.out (by decide)) (fun _ hk => hk.2) (.slice Ao12 t104.length co12)) (fun _ hk => hk.2) (.slice Ao14 t107.length co14)) (fun _ hk => hk.2) (.slice Ao15 t110.length co15)) (fun _ hk => hk.2) (.slice Ao16 t113.length co16)) (fun _ hk => hk.2) (.int .i64 t116)) (fun _ h_ => h_.1))) (Kd.R_base ho0) hb); have n5_ := sA (Kd.R_lower (Kd.R_new' (Kd.R_new' (Kd.R_new' (Kd.R_new' ho0 (Kd.R_lt (sR (Kd.R_mono (Kd.R_far (p := ⟨gb118, 4, none⟩) (Kd.R_far (p := ⟨gb118, 3, none⟩) (Kd.R_far (p := ⟨gb118, 2, none⟩) (Kd.R_far (p := ⟨gb118, 1, none⟩) (Kd.R_far (p := ⟨gb118, 0, none⟩) (Kd.R_types HO103.out BK118.out (by decide)) (fun _ hk => hk.2) (.slice Ao12 t104.length co12)) (fun _ hk => hk.2) (.slice Ao14 t107.length co14)) (fun _ hk => hk.2) (.slice Ao15 t110.length co15)) (fun _ hk => hk.2) (.slice Ao16 t113.length co16)) (fun _ hk => hk.2) (.int .i64 t116)) (fun _ h_ => h_.1))))) (Kd.R_lt (sR (Kd.R_mono (Kd.R_far (p := ⟨gb118, 4, none⟩) (Kd.R_far (p := ⟨gb118, 3, none⟩) (Kd.R_far (p := ⟨gb118, 2, none⟩) (Kd.R_far (p := ⟨gb118, 1, none⟩) (Kd.R_far (p := ⟨gb118, 0, none⟩) (Kd.R_types HO106.out BK118.out (by decide)) (fun _ hk => hk.2) (.slice Ao12 t104.length co12)) (fun _ hk => hk.2) (.slice Ao14 t107.length co14)) (fun _ hk => hk.2) (.slice Ao15 t110.length co15)) (fun _ hk => hk.2) (.slice Ao16 t113.length co16)) (fun _ hk => hk.2) (.int .i64 t116)) (fun _ h_ => h_.1))))) (Kd.R_lt (sR (Kd.R_mono (Kd.R_far (p := ⟨gb118, 4, none⟩) (Kd.R_far (p := ⟨gb118, 3, none⟩) (Kd.R_far (p := ⟨gb118, 2, none⟩) (Kd.R_far (p := ⟨gb118, 1, none⟩) (Kd.R_far (p := ⟨gb118, 0, none⟩) (Kd.R_types HO112.out BK118.out (by decide)) (fun _ hk => hk.2) (.slice Ao12 t104.length co12)) (fun _ hk => hk.2) (.slice Ao14 t107.length co14)) (fun _ hk => hk.2) (.slice Ao15 t110.length co15)) (fun _ hk => hk.2) (.slice Ao16 t113.length co16)) (fun _ hk => hk.2) (.int .i64 t116)) (fun _ h_ => h_.1))))) (Kd.R_lt (sR (Kd.R_mono (Kd.R_far (p := ⟨gb118, 4, none⟩) (Kd.R_far (p := ⟨gb118, 3, none⟩) (Kd.R_far (p := ⟨gb118, 2, none⟩) (Kd.R_far (p := ⟨gb118, 1, none⟩) (Kd.R_far (p := ⟨gb118, 0, none⟩) (Kd.R_types HO115.out BK118.out (by decide)) (fun _ hk => hk.2) (.slice Ao12 t104.length co12)) (fun _ hk => hk.2) (.slice Ao14 t107.length co14)) (fun _ hk => hk.2) (.slice Ao15 t110.length co15)) (fun _ hk => hk.2) (.slice Ao16 t113.length co16)) (fun _ hk => hk.2) (.int .i64 t116)) (fun _ h_ => h_.1))))) (below_size (by repeat (first | (with_reducible first | exact HB.out | apply sLA | apply sLN | apply sLD | refine sLS ?_ GE118.out) | exact HB.out)))); have n6_ := sA (blk_below (g := gb118) (o := .cells #[.slice Ao12 t104.length co12, .slice Ao14 t107.length co14, .slice Ao15 t110.length co15, .slice Ao16 t113.length co16, .int .i64 t116] 25 (0, 0)) (by (with_reducible repeat first | apply blk_drewN | apply blk_drew | apply blk_alloc); refine blk_put (cs := #[.slice Ao12 t104.length co12, .slice Ao14 t107.length co14, .slice Ao15 t110.length co15, .slice Ao16 t113.length co16, .int .i64 0]) ?_ 4 _ rfl; (with_reducible repeat first | apply blk_drewN | apply blk_drew | apply blk_alloc); refine blk_put (cs := #[.slice Ao12 t104.length co12, .slice Ao14 t107.length co14, .slice Ao15 t110.length co15, .slice none 0 0, .int .i64 0]) ?_ 3 _ rfl; (with_reducible repeat first | apply blk_drewN | apply blk_drew | apply blk_alloc); refine blk_put (cs := #[.slice Ao12 t104.length co12, .slice Ao14 t107.length co14, .slice none 0 0, .slice none 0 0, .int .i64 0]) ?_ 2 _ rfl; (with_reducible repeat first | apply blk_drewN | apply blk_drew | apply blk_alloc); refine blk_put (cs := #[.slice Ao12 t104.length co12, .slice none 0 0, .slice none 0 0, .slice none 0 0, .int .i64 0]) ?_ 1 _ rfl; (with_reducible repeat first | apply blk_drewN | apply blk_drew | apply blk_alloc); refine blk_put (cs := #[.slice none 0 0, .slice none 0 0, .slice none 0 0, .slice none 0 0, .int .i64 0]) ?_ 0 _ rfl; (with_reducible repeat first | apply blk_drewN | apply blk_drew | apply blk_alloc); exact BK118.out) hb); have n7_ := sA (below_step (by repeat (first | (with_reducible first | exact HB.out | apply sLA | apply sLN | apply sLD | refine sLS ?_ GE118.out) | exact HB.out)) hb); clear HO103; clear HO106; clear HO109; clear HO112; clear HO115; clear BK118; clear HB; have HO103 := n0_; have HO106 := n1_; have HO109 := n2_; have HO112 := n3_; have HO115 := n4_; have HO121 := n5_; have BK118 := n6_; have HB := n7_; clear n0_ n1_ n2_ n3_ n4_ n5_ n6_ n7_; (try clear hb); (try clear hb2); (try clear hk); (try clear hi); (try clear ho0); obtain ⟨Ao18, co18, eo18⟩ := Kd.R_slice HO121.out; subst eo18) | ((with_reducible refine gate_callee (f := 7) rfl ?_); refine goesL_ (some 26) rfl rfl Try.func7 (by kernel_rfl) rfl #[.slice Ao18 t119.length co18] rfl (by (try simp only [List.map_toArray, List.map_cons, List.map_nil]); first | done | rfl | (simp only [List.length_drop, List.length_take]; rfl)) ?_; (with_reducible refine (impl_NewTurns.calls _ _ t119 t122 t125 t128 t131 t134 t135 _ ?side1 ?side2 A6.out).mono ?_); (case side1 => repeat (first | exact (Kd.R_reads' HO121.out).2.2 | (with_reducible refine Kd.C_alloc ?_ _) | (with_reducible refine Kd.C_drewN ?_ _) | (with_reducible refine Kd.C_drew ?_))); (case side2 => exact (Kd.R_reads' HO121.out).2.1); rintro e w19 ⟨v123, v126, v129, v132, rfl, ho0, ho1, ho2, ho3, hb⟩; refine ⟨_, rfl, ?_⟩; have n0_ := sA (Kd.R_mono (Kd.R_told (Kd.R_told (Kd.R_told (Kd.R_old (sR HO103.out) hb) (Kd.R_base ho0)) (Kd.R_base ho2)) (Kd.R_base ho3)) (fun _ h_ => h_.1)); have n1_ := sA (Kd.R_mono (Kd.R_told (Kd.R_told (Kd.R_told (Kd.R_old (sR HO106.out) hb) (Kd.R_base ho0)) (Kd.R_base ho2)) (Kd.R_base ho3)) (fun _ h_ => h_.1)); have n2_ := sA (Kd.S_mono (Kd.S_told (Kd.S_told (Kd.S_told (Kd.S_told (Kd.S_old (by (with_reducible repeat (first | apply Kd.S_alloc | apply Kd.S_drewN | apply Kd.S_drew)); exact HO109.out) hb) (Kd.R_base ho0)) (Kd.S_base ho1)) (Kd.R_base ho2)) (Kd.R_base ho3)) (fun _ h_ => h_.1)); have n3_ := sA (Kd.R_mono (Kd.R_told (Kd.R_told (Kd.R_told (Kd.R_old (sR HO112.out) hb) (Kd.R_base ho0)) (Kd.R_base ho2)) (Kd.R_base ho3)) (fun _ h_ => h_.1)); have n4_ := sA (Kd.R_mono (Kd.R_told (Kd.R_told (Kd.R_told (Kd.R_old (sR HO115.out) hb) (Kd.R_base ho0)) (Kd.R_base ho2)) (Kd.R_base ho3)) (fun _ h_ => h_.1)); have n5_ := sA (Kd.R_mono (Kd.R_told (Kd.R_told (Kd.R_told (Kd.R_old (sR HO121.out) hb) (Kd.R_base ho0)) (Kd.R_base ho2)) (Kd.R_base ho3)) (fun _ h_ => h_.1)); have n6_ := sA (Kd.R_lower (Kd.R_new' (Kd.R_new' (Kd.R_new' (Kd.R_new' (Kd.R_new' ho0 (Kd.R_lt (sR HO103.out))) (Kd.R_lt (sR HO106.out))) (Kd.R_lt (sR HO112.out))) (Kd.R_lt (sR HO115.out))) (Kd.R_lt (sR HO121.out))) (below_size (by repeat (first | (with_reducible first | exact HB.out | apply sLA | apply sLN | apply sLD | refine sLS ?_ GE118.out) | exact HB.out)))); have n7_ := sA (Kd.S_lower (Kd.S_new' (Kd.S_new' (Kd.S_new' (Kd.S_new' (Kd.S_new' (Kd.S_new' ho1 (Kd.R_lt (sR HO103.out))) (Kd.R_lt (sR HO106.out))) (Kd.S_lt (by (with_reducible repeat (first | apply Kd.S_alloc | apply Kd.S_drewN | apply Kd.S_drew)); exact HO109.out))) (Kd.R_lt (sR HO112.out))) (Kd.R_lt (sR HO115.out))) (Kd.R_lt (sR HO121.out))) (below_size (by repeat (first | (with_reducible first | exact HB.out | apply sLA | apply sLN | apply sLD | refine sLS ?_ GE118.out) | exact HB.out)))); have n8_ := sA (Kd.R_lower (Kd.R_new' (Kd.R_new' (Kd.R_new' (Kd.R_new' (Kd.R_new' ho2 (Kd.R_lt (sR HO103.out))) (Kd.R_lt (sR HO106.out))) (Kd.R_lt (sR HO112.out))) (Kd.R_lt (sR HO115.out))) (Kd.R_lt (sR HO121.out))) (below_size (by repeat (first | (with_reducible first | exact HB.out | apply sLA | apply sLN | apply sLD | refine sLS ?_ GE118.out) | exact HB.out)))); have n9_ := sA (Kd.R_lower (Kd.R_new' (Kd.R_new' (Kd.R_new' (Kd.R_new' (Kd.R_new' ho3 (Kd.R_lt (sR HO103.out))) (Kd.R_lt (sR HO106.out))) (Kd.R_lt (sR HO112.out))) (Kd.R_lt (sR HO115.out))) (Kd.R_lt (sR HO121.out))) (below_size (by repeat (first | (with_reducible first | exact HB.out | apply sLA | apply sLN | apply sLD | refine sLS ?_ GE118.out) | exact HB.out)))); have n10_ := sA (blk_below (sB BK118.out) hb); have n11_ := sA (below_step (by repeat (first | (with_reducible first | exact HB.out | apply sLA | apply sLN | apply sLD | refine sLS ?_ GE118.out) | exact HB.out)) hb); clear HO103; clear HO106; clear HO109; clear HO112; clear HO115; clear HO121; clear BK118; clear HB; have HO103 := n0_; have HO106 := n1_; have HO109 := n2_; have HO112 := n3_; have HO115 := n4_; have HO121 := n5_; have HO124 := n6_; have HO127 := n7_; have HO130 := n8_; have HO133 := n9_; have BK118 := n10_; have HB := n11_; clear n0_ n1_ n2_ n3_ n4_ n5_ n6_ n7_ n8_ n9_ n10_ n11_; (try clear hb); (try clear hb2); (try clear hk); (try clear hi); (try clear ho0); (try clear ho1); (try clear ho2); (try clear ho3)) | ((with_reducible refine gate_dst (N := 6) rfl ?_); refine box_event ?hg (N := 6) ?hd (cs := #[.slice none 0 0, .slice none 0 0, .slice none 0 0, .slice none 0 0, .int .i64 0]) (t := 25) ?hr ?_; (case hd => rfl); (case hg => rfl); (case hr => first | (go_simp; done) | (go_simp; rfl)); intro gb136 hg w20 hbox hb; have n0_ := sA (Kd.R_below (sR HO103.out) hb); have n1_ := sA (Kd.R_below (sR HO106.out) hb); have n2_ := sA (Kd.S_below (by (with_reducible repeat (first | apply Kd.S_alloc | apply Kd.S_drewN | apply Kd.S_drew)); exact HO109.out) hb); have n3_ := sA (Kd.R_below (sR HO112.out) hb); have n4_ := sA (Kd.R_below (sR HO115.out) hb); have n5_ := sA (Kd.R_below (sR HO121.out) hb); have n6_ := sA (Kd.R_below (sR HO124.out) hb); have n7_ := sA (Kd.S_below (by (with_reducible repeat (first | apply Kd.S_alloc | apply Kd.S_drewN | apply Kd.S_drew)); exact HO127.out) hb); have n8_ := sA (Kd.R_below (sR HO130.out) hb); have n9_ := sA (Kd.R_below (sR HO133.out) hb); have n10_ := sA (blk_below (sB BK118.out) hb); have n11_ := sA (below_step (by repeat (first | (with_reducible first | exact HB.out | apply sLA | apply sLN | apply sLD | refine sLS ?_ GE118.out) | exact HB.out)) hb); have n12_ := sA (hbox); have n13_ := sA ((by rw [hg]; exact (below_size (by repeat (first | (with_reducible first | exact HB.out | apply sLA | apply sLN | apply sLD | refine sLS ?_ GE118.out) | exact HB.out))) : w.heap.size ≤ gb136)); have n14_ := sA ((by rw [hg]; exact (below_size (by repeat (first | (with_reducible first | exact HB.out | apply sLA | apply sLN | apply sLD | refine sLS ?_ GE118.out) | exact HB.out))) : w.heap.size ≤ gb136)); have n15_ := sA ((by rw [hg]; exact Nat.ne_of_lt (blk_lt (sB BK118.out)) : gb118 ≠ gb136)); have n16_ := sA ((by rw [hg]; exact Nat.ne_of_gt (blk_lt (sB BK118.out)) : gb136 ≠ gb118)); clear HO103; clear HO106; clear HO109; clear HO112; clear HO115; clear HO121; clear HO124; clear HO127; clear HO130; clear HO133; clear BK118; clear HB; have HO103 := n0_; have HO106 := n1_; have HO109 := n2_; have HO112 := n3_; have HO115 := n4_; have HO121 := n5_; have HO124 := n6_; have HO127 := n7_; have HO130 := n8_; have HO133 := n9_; have BK118 := n10_; have HB := n11_; have BK136 := n12_; have GW136 := n13_; have GE136 := n14_; have NB118_136 := n15_; have NB136_118 := n16_; clear n0_ n1_ n2_ n3_ n4_ n5_ n6_ n7_ n8_ n9_ n10_ n11_ n12_ n13_ n14_ n15_ n16_; clear hb hbox hg; obtain ⟨Ao21, co21, eo21⟩ := Kd.R_slice HO124.out; subst eo21; have hnb22 := NB136_118.out; have hnc22 := NB118_136.out; have hcz23_0 : w20.cell? ⟨gb136, 0, none⟩ = some (.slice none 0 0) := sC BK136 0 rfl; have hcz23_1 : w20.cell? ⟨gb136, 1, none⟩ = some (.slice none 0 0) := sC BK136 1 rfl; have hcz23_2 : w20.cell? ⟨gb136, 2, none⟩ = some (.slice none 0 0) := sC BK136 2 rfl; have hcz23_3 : w20.cell? ⟨gb136, 3, none⟩ = some (.slice none 0 0) := sC BK136 3 rfl; have hcz23_4 : w20.cell? ⟨gb136, 4, none⟩ = some (.int .i64 0) := sC BK136 4 rfl; have hfz23_0 := blk_frozen BK136.out 0; have hfz23_1 := blk_frozen BK136.out 1; have hfz23_2 := blk_frozen BK136.out 2; have hfz23_3 := blk_frozen BK136.out 3; have hfz23_4 := blk_frozen BK136.out 4; obtain ⟨Ao24, co24, eo24⟩ := Kd.S_slice HO127.out; subst eo24; obtain ⟨Ao25, co25, eo25⟩ := Kd.R_slice HO130.out; subst eo25; obtain ⟨Ao26, co26, eo26⟩ := Kd.R_slice HO133.out; subst eo26))
  (try simp only [Act.put, sI, sZ, sV])
  go_cut [37] (fun v37 wc => ∃ (kq : Nat) (x37_6 : Bool), v37 = .bool x37_6 ∧ Aside0 (laws_FnExactNewTurns.j0 kq l0 t117 t119 t135 x37_6 t104 t107 t110 t113 t116 t122 t125 t128 t131 t134 = some r) ∧ Aside0 (kq ≤ k) ∧ Aside0 (Kd.R (Kd.int .i64) 3 wc w.heap.size (fun k_ => some k_ ≠ ((.slice Ao12 t104.length co12) : Value).ownBlock ∧ some k_ ≠ ((.slice Ao15 t110.length co15) : Value).ownBlock ∧ some k_ ≠ ((.slice Ao16 t113.length co16) : Value).ownBlock ∧ some k_ ≠ ((.slice Ao21 t122.length co21) : Value).ownBlock ∧ some k_ ≠ ((.slice Ao25 t128.length co25) : Value).ownBlock ∧ some k_ ≠ ((.slice Ao26 t131.length co26) : Value).ownBlock) (.slice Ao18 t119.length co18) t119) ∧ Aside0 (Kd.R (Kd.int .i64) 3 wc w.heap.size (fun k_ => some k_ ≠ ((.slice Ao18 t119.length co18) : Value).ownBlock ∧ some k_ ≠ ((.slice Ao15 t110.length co15) : Value).ownBlock ∧ some k_ ≠ ((.slice Ao16 t113.length co16) : Value).ownBlock ∧ some k_ ≠ ((.slice Ao21 t122.length co21) : Value).ownBlock ∧ some k_ ≠ ((.slice Ao25 t128.length co25) : Value).ownBlock ∧ some k_ ≠ ((.slice Ao26 t131.length co26) : Value).ownBlock) (.slice Ao12 t104.length co12) t104) ∧ Aside0 (Kd.S (Kd.slice 3 (Kd.int .i64)) 22 wc w.heap.size (fun k_ => some k_ ≠ ((.slice Ao18 t119.length co18) : Value).ownBlock ∧ some k_ ≠ ((.slice Ao12 t104.length co12) : Value).ownBlock ∧ some k_ ≠ ((.slice Ao15 t110.length co15) : Value).ownBlock ∧ some k_ ≠ ((.slice Ao16 t113.length co16) : Value).ownBlock ∧ some k_ ≠ ((.slice Ao21 t122.length co21) : Value).ownBlock ∧ some k_ ≠ ((.slice Ao24 t125.length co24) : Value).ownBlock ∧ some k_ ≠ ((.slice Ao25 t128.length co25) : Value).ownBlock ∧ some k_ ≠ ((.slice Ao26 t131.length co26) : Value).ownBlock) (.slice Ao14 t107.length co14) t107) ∧ Aside0 (Kd.R (Kd.int .i64) 3 wc w.heap.size (fun k_ => some k_ ≠ ((.slice Ao18 t119.length co18) : Value).ownBlock ∧ some k_ ≠ ((.slice Ao12 t104.length co12) : Value).ownBlock ∧ some k_ ≠ ((.slice Ao16 t113.length co16) : Value).ownBlock ∧ some k_ ≠ ((.slice Ao21 t122.length co21) : Value).ownBlock ∧ some k_ ≠ ((.slice Ao25 t128.length co25) : Value).ownBlock ∧ some k_ ≠ ((.slice Ao26 t131.length co26) : Value).ownBlock) (.slice Ao15 t110.length co15) t110) ∧ Aside0 (Kd.R (Kd.int .i64) 3 wc w.heap.size (fun k_ => some k_ ≠ ((.slice Ao18 t119.length co18) : Value).ownBlock ∧ some k_ ≠ ((.slice Ao12 t104.length co12) : Value).ownBlock ∧ some k_ ≠ ((.slice Ao15 t110.length co15) : Value).ownBlock ∧ some k_ ≠ ((.slice Ao21 t122.length co21) : Value).ownBlock ∧ some k_ ≠ ((.slice Ao25 t128.length co25) : Value).ownBlock ∧ some k_ ≠ ((.slice Ao26 t131.length co26) : Value).ownBlock) (.slice Ao16 t113.length co16) t113) ∧ Aside0 (Kd.R (Kd.int .i64) 3 wc w.heap.size (fun k_ => some k_ ≠ ((.slice Ao18 t119.length co18) : Value).ownBlock ∧ some k_ ≠ ((.slice Ao12 t104.length co12) : Value).ownBlock ∧ some k_ ≠ ((.slice Ao15 t110.length co15) : Value).ownBlock ∧ some k_ ≠ ((.slice Ao16 t113.length co16) : Value).ownBlock ∧ some k_ ≠ ((.slice Ao25 t128.length co25) : Value).ownBlock ∧ some k_ ≠ ((.slice Ao26 t131.length co26) : Value).ownBlock) (.slice Ao21 t122.length co21) t122) ∧ Aside0 (Kd.S (Kd.slice 3 (Kd.int .i64)) 22 wc w.heap.size (fun k_ => some k_ ≠ ((.slice Ao18 t119.length co18) : Value).ownBlock ∧ some k_ ≠ ((.slice Ao12 t104.length co12) : Value).ownBlock ∧ some k_ ≠ ((.slice Ao14 t107.length co14) : Value).ownBlock ∧ some k_ ≠ ((.slice Ao15 t110.length co15) : Value).ownBlock ∧ some k_ ≠ ((.slice Ao16 t113.length co16) : Value).ownBlock ∧ some k_ ≠ ((.slice Ao21 t122.length co21) : Value).ownBlock ∧ some k_ ≠ ((.slice Ao25 t128.length co25) : Value).ownBlock ∧ some k_ ≠ ((.slice Ao26 t131.length co26) : Value).ownBlock) (.slice Ao24 t125.length co24) t125) ∧ Aside0 (Kd.R (Kd.int .i64) 3 wc w.heap.size (fun k_ => some k_ ≠ ((.slice Ao18 t119.length co18) : Value).ownBlock ∧ some k_ ≠ ((.slice Ao12 t104.length co12) : Value).ownBlock ∧ some k_ ≠ ((.slice Ao15 t110.length co15) : Value).ownBlock ∧ some k_ ≠ ((.slice Ao16 t113.length co16) : Value).ownBlock ∧ some k_ ≠ ((.slice Ao21 t122.length co21) : Value).ownBlock ∧ some k_ ≠ ((.slice Ao26 t131.length co26) : Value).ownBlock) (.slice Ao25 t128.length co25) t128) ∧ Aside0 (Kd.R (Kd.int .i64) 3 wc w.heap.size (fun k_ => some k_ ≠ ((.slice Ao18 t119.length co18) : Value).ownBlock ∧ some k_ ≠ ((.slice Ao12 t104.length co12) : Value).ownBlock ∧ some k_ ≠ ((.slice Ao15 t110.length co15) : Value).ownBlock ∧ some k_ ≠ ((.slice Ao16 t113.length co16) : Value).ownBlock ∧ some k_ ≠ ((.slice Ao21 t122.length co21) : Value).ownBlock ∧ some k_ ≠ ((.slice Ao25 t128.length co25) : Value).ownBlock) (.slice Ao26 t131.length co26) t131) ∧ Aside0 (wc.heap[gb118]? = some (.cells #[(.slice Ao12 t104.length co12), (.slice Ao14 t107.length co14), (.slice Ao15 t110.length co15), (.slice Ao16 t113.length co16), .int .i64 t116] 25 (0, 0))) ∧ Aside0 (wc.heap[gb136]? = some (.cells #[(.slice Ao21 t122.length co21), (.slice Ao24 t125.length co24), (.slice Ao25 t128.length co25), (.slice Ao26 t131.length co26), .int .i64 t134] 25 (0, 0))) ∧ Aside0 (Below w.heap.size w wc))
  case first =>
   have H := HC7.out
   clear HC7
   replace H := Option.bind_eq_some_iff.mp H
   obtain ⟨t137, A270, H⟩ := H
   replace H : (if t137 = true then (laws_FnExactNewTurns.j0 k l0 t117 t119 t135 (t135 != t117) t104 t107 t110 t113 t116 t122 t125 t128 t131 t134) else (laws_FnExactNewTurns.j0 k l0 t117 t119 t135 true t104 t107 t110 t113 t116 t122 t125 t128 t131 t134)) = some r := H
   have A27 := sA A270
   clear A270
   by_cases c28 : t137 = true
   ·subst c28
    have H1 : (laws_FnExactNewTurns.j0 k l0 t117 t119 t135 (t135 != t117) t104 t107 t110 t113 t116 t122 t125 t128 t131 t134) = some r := by rw [if_pos rfl] at H; exact H
    clear H
    have H := H1
    clear H1
    have H' := sA H
    clear H
    have hnb29 := NB136_118.out
    have hnc29 := NB118_136.out
    have hcz30_0 : w20.cell? ⟨gb136, 0, none⟩ = some (.slice none 0 0) := sC BK136 0 rfl
    have hcz30_1 : w20.cell? ⟨gb136, 1, none⟩ = some (.slice none 0 0) := sC BK136 1 rfl
    have hcz30_2 : w20.cell? ⟨gb136, 2, none⟩ = some (.slice none 0 0) := sC BK136 2 rfl
    have hcz30_3 : w20.cell? ⟨gb136, 3, none⟩ = some (.slice none 0 0) := sC BK136 3 rfl
    have hcz30_4 : w20.cell? ⟨gb136, 4, none⟩ = some (.int .i64 0) := sC BK136 4 rfl
    have hfz30_0 := blk_frozen BK136.out 0
    have hfz30_1 := blk_frozen BK136.out 1
    have hfz30_2 := blk_frozen BK136.out 2
    have hfz30_3 := blk_frozen BK136.out 3
    have hfz30_4 := blk_frozen BK136.out 4
    have hcz31_0 : w20.cell? ⟨gb118, 0, none⟩ = some (.slice Ao12 t104.length co12) := sC BK118 0 rfl
    have hcz31_1 : w20.cell? ⟨gb118, 1, none⟩ = some (.slice Ao14 t107.length co14) := sC BK118 1 rfl
    have hcz31_2 : w20.cell? ⟨gb118, 2, none⟩ = some (.slice Ao15 t110.length co15) := sC BK118 2 rfl
    have hcz31_3 : w20.cell? ⟨gb118, 3, none⟩ = some (.slice Ao16 t113.length co16) := sC BK118 3 rfl
    have hcz31_4 : w20.cell? ⟨gb118, 4, none⟩ = some (.int .i64 t116) := sC BK118 4 rfl
    have hfz31_0 := blk_frozen BK118.out 0
    have hfz31_1 := blk_frozen BK118.out 1
    have hfz31_2 := blk_frozen BK118.out 2
    have hfz31_3 := blk_frozen BK118.out 3
    have hfz31_4 := blk_frozen BK118.out 4
    go_wp2_with (first | ((with_reducible refine gate_callee (f := 8) rfl ?_); refine goesL_ (some 31) rfl rfl Try.func8 (by kernel_rfl) rfl #[.agg #[.slice Ao21 t122.length co21, .slice Ao24 t125.length co24, .slice Ao25 t128.length co25, .slice Ao26 t131.length co26, .int .i64 t134], .agg #[.slice Ao12 t104.length co12, .slice Ao14 t107.length co14, .slice Ao15 t110.length co15, .slice Ao16 t113.length co16, .int .i64 t116]] rfl (by (try simp only [List.map_toArray, List.map_cons, List.map_nil]); first | done | rfl | (simp only [List.length_drop, List.length_take]; rfl)) ?_; (with_reducible refine (laws_eqTurns.calls k _ _ t122 _ _ t125 _ _ t128 _ _ t131 t134 _ _ t104 _ _ t107 _ _ t110 _ _ t113 t116 true _ ?side1 ?side2 ?side3 ?side4 ?side5 ?side6 ?side7 ?side8 ?side9 ?side10 ?side11 ?side12 ?side13 ?side14 ?side15 ?side16 A27.out).mono ?_); (case side1 => refine (Kd.R_reads' (e := 3) (base := w.heap.size) (ok := fun k_ => ((((((some k_ ≠ (.slice Ao25 t128.length co25 : Value).ownBlock ∧ some k_ ≠ (.slice Ao26 t131.length co26 : Value).ownBlock) ∧ some k_ ≠ (.slice Ao9 t101.length co9 : Value).ownBlock) ∧ some k_ ≠ (.slice Ao12 t104.length co12 : Value).ownBlock) ∧ some k_ ≠ (.slice Ao15 t110.length co15 : Value).ownBlock) ∧ some k_ ≠ (.slice Ao16 t113.length co16 : Value).ownBlock) ∧ some k_ ≠ (.slice Ao18 t119.length co18 : Value).ownBlock)) (n := t122.length) (c := co21) ?_).2.2; exact (sR (Kd.R_mono (Kd.R_far (p := ⟨gb136, 4, none⟩) (Kd.R_far (p := ⟨gb136, 3, none⟩) (Kd.R_far (p := ⟨gb136, 2, none⟩) (Kd.R_far (p := ⟨gb136, 1, none⟩) (Kd.R_far (p := ⟨gb136, 0, none⟩) (Kd.R_types HO124.out BK136.out (by decide)) (fun _ hk => hk.2) (.slice Ao21 t122.length co21)) (fun _ hk => hk.2) (.slice Ao24 t125.length co24)) (fun _ hk => hk.2) (.slice Ao25 t128.length co25)) (fun _ hk => hk.2) (.slice Ao26 t131.length co26)) (fun _ hk => hk.2) (.int .i64 t134)) (fun _ h_ => h_.1)))); (case side2 => exact (Kd.R_reads' HO124.out).2.1); (case side3 => refine (Kd.S_reads' (e := 22) (base := w.heap.size) (ok := fun k_ => (((((((some k_ ≠ (.slice Ao21 t122.length co21 : Value).ownBlock ∧ (some k_ ≠ (.slice Ao25 t128.length co25 : Value).ownBlock ∧ some k_ ≠ (.slice Ao26 t131.length co26 : Value).ownBlock)) ∧ some k_ ≠ (.slice Ao9 t101.length co9 : Value).ownBlock) ∧ some k_ ≠ (.slice Ao12 t104.length co12 : Value).ownBlock) ∧ some k_ ≠ (.slice Ao14 t107.length co14 : Value).ownBlock) ∧ some k_ ≠ (.slice Ao15 t110.length co15 : Value).ownBlock) ∧ some k_ ≠ (.slice Ao16 t113.length co16 : Value).ownBlock) ∧ some k_ ≠ (.slice Ao18 t119.length co18 : Value).ownBlock)) (n := t125.length) (c := co24) ?_).2.2; exact (by (with_reducible repeat (first | apply Kd.S_alloc | apply Kd.S_drewN | apply Kd.S_drew)); exact (Kd.S_mono (Kd.S_far (p := ⟨gb136, 4, none⟩) (Kd.S_far (p := ⟨gb136, 3, none⟩) (Kd.S_far (p := ⟨gb136, 2, none⟩) (Kd.S_far (p := ⟨gb136, 1, none⟩) (Kd.S_far (p := ⟨gb136, 0, none⟩) (Kd.S_types HO127.out BK136.out (by decide)) (fun _ hk => hk.2) (.slice Ao21 t122.length co21)) (fun _ hk => hk.2) (.slice Ao24 t125.length co24)) (fun _ hk => hk.2) (.slice Ao25 t128.length co25)) (fun _ hk => hk.2) (.slice Ao26 t131.length co26)) (fun _ hk => hk.2) (.int .i64 t134)) (fun _ h_ => h_.1)))); (case side4 => exact (Kd.S_reads' HO127.out).2.1); (case side5 => refine (Kd.R_reads' (e := 3) (base := w.heap.size) (ok := fun k_ => ((((((some k_ ≠ (.slice Ao21 t122.length co21 : Value).ownBlock ∧ some k_ ≠ (.slice Ao26 t131.length co26 : Value).ownBlock) ∧ some k_ ≠ (.slice Ao9 t101.length co9 : Value).ownBlock) ∧ some k_ ≠ (.slice Ao12 t104.length co12 : Value).ownBlock) ∧ some k_ ≠ (.slice Ao15 t110.length co15 : Value).ownBlock) ∧ some k_ ≠ (.slice Ao16 t113.length co16 : Value).ownBlock) ∧ some k_ ≠ (.slice Ao18 t119.length co18 : Value).ownBlock)) (n := t128.length) (c := co25) ?_).2.2; exact (sR (Kd.R_mono (Kd.R_far (p := ⟨gb136, 4, none⟩) (Kd.R_far (p := ⟨gb136, 3, none⟩) (Kd.R_far (p := ⟨gb136, 2, none⟩) (Kd.R_far (p := ⟨gb136, 1, none⟩) (Kd.R_far (p := ⟨gb136, 0, none⟩) (Kd.R_types HO130.out BK136.out (by decide)) (fun _ hk => hk.2) (.slice Ao21 t122.length co21)) (fun _ hk => hk.2) (.slice Ao24 t125.length co24)) (fun _ hk => hk.2) (.slice Ao25 t128.length co25)) (fun _ hk => hk.2) (.slice Ao26 t131.length co26)) (fun _ hk => hk.2) (.int .i64 t134)) (fun _ h_ => h_.1)))); (case side6 => exact (Kd.R_reads' HO130.out).2.1); (case side7 => refine (Kd.R_reads' (e := 3) (base := w.heap.size) (ok := fun k_ => ((((((some k_ ≠ (.slice Ao21 t122.length co21 : Value).ownBlock ∧ some k_ ≠ (.slice Ao25 t128.length co25 : Value).ownBlock) ∧ some k_ ≠ (.slice Ao9 t101.length co9 : Value).ownBlock) ∧ some k_ ≠ (.slice Ao12 t104.length co12 : Value).ownBlock) ∧ some k_ ≠ (.slice Ao15 t110.length co15 : Value).ownBlock) ∧ some k_ ≠ (.slice Ao16 t113.length co16 : Value).ownBlock) ∧ some k_ ≠ (.slice Ao18 t119.length co18 : Value).ownBlock)) (n := t131.length) (c := co26) ?_).2.2; exact (sR (Kd.R_mono (Kd.R_far (p := ⟨gb136, 4, none⟩) (Kd.R_far (p := ⟨gb136, 3, none⟩) (Kd.R_far (p := ⟨gb136, 2, none⟩) (Kd.R_far (p := ⟨gb136, 1, none⟩) (Kd.R_far (p := ⟨gb136, 0, none⟩) (Kd.R_types HO133.out BK136.out (by decide)) (fun _ hk => hk.2) (.slice Ao21 t122.length co21)) (fun _ hk => hk.2) (.slice Ao24 t125.length co24)) (fun _ hk => hk.2) (.slice Ao25 t128.length co25)) (fun _ hk => hk.2) (.slice Ao26 t131.length co26)) (fun _ hk => hk.2) (.int .i64 t134)) (fun _ h_ => h_.1)))); (case side8 => exact (Kd.R_reads' HO133.out).2.1); (case side9 => refine (Kd.R_reads' (e := 3) (base := w.heap.size) (ok := fun k_ => ((((((some k_ ≠ (.slice Ao15 t110.length co15 : Value).ownBlock ∧ some k_ ≠ (.slice Ao16 t113.length co16 : Value).ownBlock) ∧ some k_ ≠ (.slice Ao9 t101.length co9 : Value).ownBlock) ∧ some k_ ≠ (.slice Ao18 t119.length co18 : Value).ownBlock) ∧ some k_ ≠ (.slice Ao21 t122.length co21 : Value).ownBlock) ∧ some k_ ≠ (.slice Ao25 t128.length co25 : Value).ownBlock) ∧ some k_ ≠ (.slice Ao26 t131.length co26 : Value).ownBlock)) (n := t104.length) (c := co12) ?_).2.2; exact (sR (Kd.R_mono (Kd.R_far (p := ⟨gb136, 4, none⟩) (Kd.R_far (p := ⟨gb136, 3, none⟩) (Kd.R_far (p := ⟨gb136, 2, none⟩) (Kd.R_far (p := ⟨gb136, 1, none⟩) (Kd.R_far (p := ⟨gb136, 0, none⟩) (Kd.R_types HO106.out BK136.out (by decide)) (fun _ hk => hk.2) (.slice Ao21 t122.length co21)) (fun _ hk => hk.2) (.slice Ao24 t125.length co24)) (fun _ hk => hk.2) (.slice Ao25 t128.length co25)) (fun _ hk => hk.2) (.slice Ao26 t131.length co26)) (fun _ hk => hk.2) (.int .i64 t134)) (fun _ h_ => h_.1)))); (case side10 => exact (Kd.R_reads' HO106.out).2.1); (case side11 => refine (Kd.S_reads' (e := 22) (base := w.heap.size) (ok := fun k_ => (((((((some k_ ≠ (.slice Ao12 t104.length co12 : Value).ownBlock ∧ (some k_ ≠ (.slice Ao15 t110.length co15 : Value).ownBlock ∧ some k_ ≠ (.slice Ao16 t113.length co16 : Value).ownBlock)) ∧ some k_ ≠ (.slice Ao9 t101.length co9 : Value).ownBlock) ∧ some k_ ≠ (.slice Ao18 t119.length co18 : Value).ownBlock) ∧ some k_ ≠ (.slice Ao21 t122.length co21 : Value).ownBlock) ∧ some k_ ≠ (.slice Ao24 t125.length co24 : Value).ownBlock) ∧ some k_ ≠ (.slice Ao25 t128.length co25 : Value).ownBlock) ∧ some k_ ≠ (.slice Ao26 t131.length co26 : Value).ownBlock)) (n := t107.length) (c := co14) ?_).2.2; exact (by (with_reducible repeat (first | apply Kd.S_alloc | apply Kd.S_drewN | apply Kd.S_drew)); exact (Kd.S_mono (Kd.S_far (p := ⟨gb136, 4, none⟩) (Kd.S_far (p := ⟨gb136, 3, none⟩) (Kd.S_far (p := ⟨gb136, 2, none⟩) (Kd.S_far (p := ⟨gb136, 1, none⟩) (Kd.S_far (p := ⟨gb136, 0, none⟩) (Kd.S_types HO109.out BK136.out (by decide)) (fun _ hk => hk.2) (.slice Ao21 t122.length co21)) (fun _ hk => hk.2) (.slice Ao24 t125.length co24)) (fun _ hk => hk.2) (.slice Ao25 t128.length co25)) (fun _ hk => hk.2) (.slice Ao26 t131.length co26)) (fun _ hk => hk.2) (.int .i64 t134)) (fun _ h_ => h_.1)))); (case side12 => exact (Kd.S_reads' HO109.out).2.1); (case side13 => refine (Kd.R_reads' (e := 3) (base := w.heap.size) (ok := fun k_ => ((((((some k_ ≠ (.slice Ao12 t104.length co12 : Value).ownBlock ∧ some k_ ≠ (.slice Ao16 t113.length co16 : Value).ownBlock) ∧ some k_ ≠ (.slice Ao9 t101.length co9 : Value).ownBlock) ∧ some k_ ≠ (.slice Ao18 t119.length co18 : Value).ownBlock) ∧ some k_ ≠ (.slice Ao21 t122.length co21 : Value).ownBlock) ∧ some k_ ≠ (.slice Ao25 t128.length co25 : Value).ownBlock) ∧ some k_ ≠ (.slice Ao26 t131.length co26 : Value).ownBlock)) (n := t110.length) (c := co15) ?_).2.2; exact (sR (Kd.R_mono (Kd.R_far (p := ⟨gb136, 4, none⟩) (Kd.R_far (p := ⟨gb136, 3, none⟩) (Kd.R_far (p := ⟨gb136, 2, none⟩) (Kd.R_far (p := ⟨gb136, 1, none⟩) (Kd.R_far (p := ⟨gb136, 0, none⟩) (Kd.R_types HO112.out BK136.out (by decide)) (fun _ hk => hk.2) (.slice Ao21 t122.length co21)) (fun _ hk => hk.2) (.slice Ao24 t125.length co24)) (fun _ hk => hk.2) (.slice Ao25 t128.length co25)) (fun _ hk => hk.2) (.slice Ao26 t131.length co26)) (fun _ hk => hk.2) (.int .i64 t134)) (fun _ h_ => h_.1)))); (case side14 => exact (Kd.R_reads' HO112.out).2.1); (case side15 => refine (Kd.R_reads' (e := 3) (base := w.heap.size) (ok := fun k_ => ((((((some k_ ≠ (.slice Ao12 t104.length co12 : Value).ownBlock ∧ some k_ ≠ (.slice Ao15 t110.length co15 : Value).ownBlock) ∧ some k_ ≠ (.slice Ao9 t101.length co9 : Value).ownBlock) ∧ some k_ ≠ (.slice Ao18 t119.length co18 : Value).ownBlock) ∧ some k_ ≠ (.slice Ao21 t122.length co21 : Value).ownBlock) ∧ some k_ ≠ (.slice Ao25 t128.length co25 : Value).ownBlock) ∧ some k_ ≠ (.slice Ao26 t131.length co26 : Value).ownBlock)) (n := t113.length) (c := co16) ?_).2.2; exact (sR (Kd.R_mono (Kd.R_far (p := ⟨gb136, 4, none⟩) (Kd.R_far (p := ⟨gb136, 3, none⟩) (Kd.R_far (p := ⟨gb136, 2, none⟩) (Kd.R_far (p := ⟨gb136, 1, none⟩) (Kd.R_far (p := ⟨gb136, 0, none⟩) (Kd.R_types HO115.out BK136.out (by decide)) (fun _ hk => hk.2) (.slice Ao21 t122.length co21)) (fun _ hk => hk.2) (.slice Ao24 t125.length co24)) (fun _ hk => hk.2) (.slice Ao25 t128.length co25)) (fun _ hk => hk.2) (.slice Ao26 t131.length co26)) (fun _ hk => hk.2) (.int .i64 t134)) (fun _ h_ => h_.1)))); (case side16 => exact (Kd.R_reads' HO115.out).2.1); rintro e w32 ⟨rfl, hb⟩; refine ⟨_, rfl, ?_⟩; have n0_ := sA (Kd.R_below (sR (Kd.R_mono (Kd.R_far (p := ⟨gb136, 4, none⟩) (Kd.R_far (p := ⟨gb136, 3, none⟩) (Kd.R_far (p := ⟨gb136, 2, none⟩) (Kd.R_far (p := ⟨gb136, 1, none⟩) (Kd.R_far (p := ⟨gb136, 0, none⟩) (Kd.R_types HO103.out BK136.out (by decide)) (fun _ hk => hk.2) (.slice Ao21 t122.length co21)) (fun _ hk => hk.2) (.slice Ao24 t125.length co24)) (fun _ hk => hk.2) (.slice Ao25 t128.length co25)) (fun _ hk => hk.2) (.slice Ao26 t131.length co26)) (fun _ hk => hk.2) (.int .i64 t134)) (fun _ h_ => h_.1))) hb); have n1_ := sA (Kd.R_below (sR (Kd.R_mono (Kd.R_far (p := ⟨gb136, 4, none⟩) (Kd.R_far (p := ⟨gb136, 3, none⟩) (Kd.R_far (p := ⟨gb136, 2, none⟩) (Kd.R_far (p := ⟨gb136, 1, none⟩) (Kd.R_far (p := ⟨gb136, 0, none⟩) (Kd.R_types HO106.out BK136.out (by decide)) (fun _ hk => hk.2) (.slice Ao21 t122.length co21)) (fun _ hk => hk.2) (.slice Ao24 t125.length co24)) (fun _ hk => hk.2) (.slice Ao25 t128.length co25)) (fun _ hk => hk.2) (.slice Ao26 t131.length co26)) (fun _ hk => hk.2) (.int .i64 t134)) (fun _ h_ => h_.1))) hb); have n2_ := sA (Kd.S_below (by (with_reducible repeat (first | apply Kd.S_alloc | apply Kd.S_drewN | apply Kd.S_drew)); exact (Kd.S_mono (Kd.S_far (p := ⟨gb136, 4, none⟩) (Kd.S_far (p := ⟨gb136, 3, none⟩) (Kd.S_far (p := ⟨gb136, 2, none⟩) (Kd.S_far (p := ⟨gb136, 1, none⟩) (Kd.S_far (p := ⟨gb136, 0, none⟩) (Kd.S_types HO109.out BK136.out (by decide)) (fun _ hk => hk.2) (.slice Ao21 t122.length co21)) (fun _ hk => hk.2) (.slice Ao24 t125.length co24)) (fun _ hk => hk.2) (.slice Ao25 t128.length co25)) (fun _ hk => hk.2) (.slice Ao26 t131.length co26)) (fun _ hk => hk.2) (.int .i64 t134)) (fun _ h_ => h_.1))) hb); have n3_ := sA (Kd.R_below (sR (Kd.R_mono (Kd.R_far (p := ⟨gb136, 4, none⟩) (Kd.R_far (p := ⟨gb136, 3, none⟩) (Kd.R_far (p := ⟨gb136, 2, none⟩) (Kd.R_far (p := ⟨gb136, 1, none⟩) (Kd.R_far (p := ⟨gb136, 0, none⟩) (Kd.R_types HO112.out BK136.out (by decide)) (fun _ hk => hk.2) (.slice Ao21 t122.length co21)) (fun _ hk => hk.2) (.slice Ao24 t125.length co24)) (fun _ hk => hk.2) (.slice Ao25 t128.length co25)) (fun _ hk => hk.2) (.slice Ao26 t131.length co26)) (fun _ hk => hk.2) (.int .i64 t134)) (fun _ h_ => h_.1))) hb); have n4_ := sA (Kd.R_below (sR (Kd.R_mono (Kd.R_far (p := ⟨gb136, 4, none⟩) (Kd.R_far (p := ⟨gb136, 3, none⟩) (Kd.R_far (p := ⟨gb136, 2, none⟩) (Kd.R_far (p := ⟨gb136, 1, none⟩) (Kd.R_far (p := ⟨gb136, 0, none⟩) (Kd.R_types HO115.out BK136.out (by decide)) (fun _ hk => hk.2) (.slice Ao21 t122.length co21)) (fun _ hk => hk.2) (.slice Ao24 t125.length co24)) (fun _ hk => hk.2) (.slice Ao25 t128.length co25)) (fun _ hk => hk.2) (.slice Ao26 t131.length co26)) (fun _ hk => hk.2) (.int .i64 t134)) (fun _ h_ => h_.1))) hb); have n5_ := sA (Kd.R_below (sR (Kd.R_mono (Kd.R_far (p := ⟨gb136, 4, none⟩) (Kd.R_far (p := ⟨gb136, 3, none⟩) (Kd.R_far (p := ⟨gb136, 2, none⟩) (Kd.R_far (p := ⟨gb136, 1, none⟩) (Kd.R_far (p := ⟨gb136, 0, none⟩) (Kd.R_types HO121.out BK136.out (by decide)) (fun _ hk => hk.2) (.slice Ao21 t122.length co21)) (fun _ hk => hk.2) (.slice Ao24 t125.length co24)) (fun _ hk => hk.2) (.slice Ao25 t128.length co25)) (fun _ hk => hk.2) (.slice Ao26 t131.length co26)) (fun _ hk => hk.2) (.int .i64 t134)) (fun _ h_ => h_.1))) hb); have n6_ := sA (Kd.R_below (sR (Kd.R_mono (Kd.R_far (p := ⟨gb136, 4, none⟩) (Kd.R_far (p := ⟨gb136, 3, none⟩) (Kd.R_far (p := ⟨gb136, 2, none⟩) (Kd.R_far (p := ⟨gb136, 1, none⟩) (Kd.R_far (p := ⟨gb136, 0, none⟩) (Kd.R_types HO124.out BK136.out (by decide)) (fun _ hk => hk.2) (.slice Ao21 t122.length co21)) (fun _ hk => hk.2) (.slice Ao24 t125.length co24)) (fun _ hk => hk.2) (.slice Ao25 t128.length co25)) (fun _ hk => hk.2) (.slice Ao26 t131.length co26)) (fun _ hk => hk.2) (.int .i64 t134)) (fun _ h_ => h_.1))) hb); have n7_ := sA (Kd.S_below (by (with_reducible repeat (first | apply Kd.S_alloc | apply Kd.S_drewN | apply Kd.S_drew)); exact (Kd.S_mono (Kd.S_far (p := ⟨gb136, 4, none⟩) (Kd.S_far (p := ⟨gb136, 3, none⟩) (Kd.S_far (p := ⟨gb136, 2, none⟩) (Kd.S_far (p := ⟨gb136, 1, none⟩) (Kd.S_far (p := ⟨gb136, 0, none⟩) (Kd.S_types HO127.out BK136.out (by decide)) (fun _ hk => hk.2) (.slice Ao21 t122.length co21)) (fun _ hk => hk.2) (.slice Ao24 t125.length co24)) (fun _ hk => hk.2) (.slice Ao25 t128.length co25)) (fun _ hk => hk.2) (.slice Ao26 t131.length co26)) (fun _ hk => hk.2) (.int .i64 t134)) (fun _ h_ => h_.1))) hb); have n8_ := sA (Kd.R_below (sR (Kd.R_mono (Kd.R_far (p := ⟨gb136, 4, none⟩) (Kd.R_far (p := ⟨gb136, 3, none⟩) (Kd.R_far (p := ⟨gb136, 2, none⟩) (Kd.R_far (p := ⟨gb136, 1, none⟩) (Kd.R_far (p := ⟨gb136, 0, none⟩) (Kd.R_types HO130.out BK136.out (by decide)) (fun _ hk => hk.2) (.slice Ao21 t122.length co21)) (fun _ hk => hk.2) (.slice Ao24 t125.length co24)) (fun _ hk => hk.2) (.slice Ao25 t128.length co25)) (fun _ hk => hk.2) (.slice Ao26 t131.length co26)) (fun _ hk => hk.2) (.int .i64 t134)) (fun _ h_ => h_.1))) hb); have n9_ := sA (Kd.R_below (sR (Kd.R_mono (Kd.R_far (p := ⟨gb136, 4, none⟩) (Kd.R_far (p := ⟨gb136, 3, none⟩) (Kd.R_far (p := ⟨gb136, 2, none⟩) (Kd.R_far (p := ⟨gb136, 1, none⟩) (Kd.R_far (p := ⟨gb136, 0, none⟩) (Kd.R_types HO133.out BK136.out (by decide)) (fun _ hk => hk.2) (.slice Ao21 t122.length co21)) (fun _ hk => hk.2) (.slice Ao24 t125.length co24)) (fun _ hk => hk.2) (.slice Ao25 t128.length co25)) (fun _ hk => hk.2) (.slice Ao26 t131.length co26)) (fun _ hk => hk.2) (.int .i64 t134)) (fun _ h_ => h_.1))) hb); have n10_ := sA (blk_below (g := gb118) (o := .cells #[.slice Ao12 t104.length co12, .slice Ao14 t107.length co14, .slice Ao15 t110.length co15, .slice Ao16 t113.length co16, .int .i64 t116] 25 (0, 0)) (by (with_reducible repeat first | apply blk_drewN | apply blk_drew | apply blk_alloc); refine blk_far ?_ NB118_136.out _; (with_reducible repeat first | apply blk_drewN | apply blk_drew | apply blk_alloc); refine blk_far ?_ NB118_136.out _; (with_reducible repeat first | apply blk_drewN | apply blk_drew | apply blk_alloc); refine blk_far ?_ NB118_136.out _; (with_reducible repeat first | apply blk_drewN | apply blk_drew | apply blk_alloc); refine blk_far ?_ NB118_136.out _; (with_reducible repeat first | apply blk_drewN | apply blk_drew | apply blk_alloc); refine blk_far ?_ NB118_136.out _; (with_reducible repeat first | apply blk_drewN | apply blk_drew | apply blk_alloc); exact BK118.out) hb); have n11_ := sA (blk_below (g := gb136) (o := .cells #[.slice Ao21 t122.length co21, .slice Ao24 t125.length co24, .slice Ao25 t128.length co25, .slice Ao26 t131.length co26, .int .i64 t134] 25 (0, 0)) (by (with_reducible repeat first | apply blk_drewN | apply blk_drew | apply blk_alloc); refine blk_put (cs := #[.slice Ao21 t122.length co21, .slice Ao24 t125.length co24, .slice Ao25 t128.length co25, .slice Ao26 t131.length co26, .int .i64 0]) ?_ 4 _ rfl; (with_reducible repeat first | apply blk_drewN | apply blk_drew | apply blk_alloc); refine blk_put (cs := #[.slice Ao21 t122.length co21, .slice Ao24 t125.length co24, .slice Ao25 t128.length co25, .slice none 0 0, .int .i64 0]) ?_ 3 _ rfl; (with_reducible repeat first | apply blk_drewN | apply blk_drew | apply blk_alloc); refine blk_put (cs := #[.slice Ao21 t122.length co21, .slice Ao24 t125.length co24, .slice none 0 0, .slice none 0 0, .int .i64 0]) ?_ 2 _ rfl; (with_reducible repeat first | apply blk_drewN | apply blk_drew | apply blk_alloc); refine blk_put (cs := #[.slice Ao21 t122.length co21, .slice none 0 0, .slice none 0 0, .slice none 0 0, .int .i64 0]) ?_ 1 _ rfl; (with_reducible repeat first | apply blk_drewN | apply blk_drew | apply blk_alloc); refine blk_put (cs := #[.slice none 0 0, .slice none 0 0, .slice none 0 0, .slice none 0 0, .int .i64 0]) ?_ 0 _ rfl; (with_reducible repeat first | apply blk_drewN | apply blk_drew | apply blk_alloc); exact BK136.out) hb); have n12_ := sA (below_step (by repeat (first | (with_reducible first | exact HB.out | apply sLA | apply sLN | apply sLD | refine sLS ?_ (Aside0.out (by assumption))) | exact HB.out)) hb); clear HO103; clear HO106; clear HO109; clear HO112; clear HO115; clear HO121; clear HO124; clear HO127; clear HO130; clear HO133; clear BK118; clear BK136; clear HB; have HO103 := n0_; have HO106 := n1_; have HO109 := n2_; have HO112 := n3_; have HO115 := n4_; have HO121 := n5_; have HO124 := n6_; have HO127 := n7_; have HO130 := n8_; have HO133 := n9_; have BK118 := n10_; have BK136 := n11_; have HB := n12_; clear n0_ n1_ n2_ n3_ n4_ n5_ n6_ n7_ n8_ n9_ n10_ n11_ n12_; (try clear hb); (try clear hb2); (try clear hk); (try clear hi)))
    go_meet
    case rel => exact ⟨_, ((t135 != t117)), (by first | rfl | (simp; done) | (simp [*]; done)), H', ⟨by first | omega | exact Nat.le_refl _⟩, ⟨sR (Kd.R_mono HO121.out (fun _ hk => ⟨hk.1.1.1.1.1.2, ⟨hk.1.1.1.1.2, ⟨hk.1.1.1.2, ⟨hk.1.1.2, ⟨hk.1.2, hk.2⟩⟩⟩⟩⟩))⟩, ⟨sR (Kd.R_mono HO106.out (fun _ hk => ⟨hk.1.1.1.2, ⟨hk.1.1.1.1.1.1, ⟨hk.1.1.1.1.1.2, ⟨hk.1.1.2, ⟨hk.1.2, hk.2⟩⟩⟩⟩⟩))⟩, ⟨by (with_reducible repeat (first | apply Kd.S_alloc | apply Kd.S_drewN | apply Kd.S_drew)); exact Kd.S_mono HO109.out (fun _ hk => ⟨hk.1.1.1.1.2, ⟨hk.1.1.1.1.1.1.1, ⟨hk.1.1.1.1.1.1.2.1, ⟨hk.1.1.1.1.1.1.2.2, ⟨hk.1.1.1.2, ⟨hk.1.1.2, ⟨hk.1.2, hk.2⟩⟩⟩⟩⟩⟩⟩)⟩, ⟨sR (Kd.R_mono HO112.out (fun _ hk => ⟨hk.1.1.1.2, ⟨hk.1.1.1.1.1.1, ⟨hk.1.1.1.1.1.2, ⟨hk.1.1.2, ⟨hk.1.2, hk.2⟩⟩⟩⟩⟩))⟩, ⟨sR (Kd.R_mono HO115.out (fun _ hk => ⟨hk.1.1.1.2, ⟨hk.1.1.1.1.1.1, ⟨hk.1.1.1.1.1.2, ⟨hk.1.1.2, ⟨hk.1.2, hk.2⟩⟩⟩⟩⟩))⟩, ⟨sR (Kd.R_mono HO124.out (fun _ hk => ⟨hk.2, ⟨hk.1.1.1.2, ⟨hk.1.1.2, ⟨hk.1.2, ⟨hk.1.1.1.1.1.1, hk.1.1.1.1.1.2⟩⟩⟩⟩⟩))⟩, ⟨by (with_reducible repeat (first | apply Kd.S_alloc | apply Kd.S_drewN | apply Kd.S_drew)); exact Kd.S_mono HO127.out (fun _ hk => ⟨hk.2, ⟨hk.1.1.1.1.2, ⟨hk.1.1.1.2, ⟨hk.1.1.2, ⟨hk.1.2, ⟨hk.1.1.1.1.1.1.1, ⟨hk.1.1.1.1.1.1.2.1, hk.1.1.1.1.1.1.2.2⟩⟩⟩⟩⟩⟩⟩)⟩, ⟨sR (Kd.R_mono HO130.out (fun _ hk => ⟨hk.2, ⟨hk.1.1.1.2, ⟨hk.1.1.2, ⟨hk.1.2, ⟨hk.1.1.1.1.1.1, hk.1.1.1.1.1.2⟩⟩⟩⟩⟩))⟩, ⟨sR (Kd.R_mono HO133.out (fun _ hk => ⟨hk.2, ⟨hk.1.1.1.2, ⟨hk.1.1.2, ⟨hk.1.2, ⟨hk.1.1.1.1.1.1, hk.1.1.1.1.1.2⟩⟩⟩⟩⟩))⟩, ⟨sB BK118.out⟩, ⟨sB BK136.out⟩, ⟨by repeat (first | (with_reducible first | exact HB.out | apply sLA | apply sLN | apply sLD | refine sLS ?_ GE118.out | refine sLS ?_ GE136.out) | exact HB.out)⟩⟩
   ·replace c28 := Bool.eq_false_iff.mpr c28
    subst c28
    have H1 : (laws_FnExactNewTurns.j0 k l0 t117 t119 t135 true t104 t107 t110 t113 t116 t122 t125 t128 t131 t134) = some r := by rw [if_neg (show ¬ (false = true) by decide)] at H; exact H
    clear H
    have H := H1
    clear H1
    have H' := sA H
    clear H
    have hnb33 := NB136_118.out
    have hnc33 := NB118_136.out
    have hcz34_0 : w20.cell? ⟨gb136, 0, none⟩ = some (.slice none 0 0) := sC BK136 0 rfl
    have hcz34_1 : w20.cell? ⟨gb136, 1, none⟩ = some (.slice none 0 0) := sC BK136 1 rfl
    have hcz34_2 : w20.cell? ⟨gb136, 2, none⟩ = some (.slice none 0 0) := sC BK136 2 rfl
    have hcz34_3 : w20.cell? ⟨gb136, 3, none⟩ = some (.slice none 0 0) := sC BK136 3 rfl
    have hcz34_4 : w20.cell? ⟨gb136, 4, none⟩ = some (.int .i64 0) := sC BK136 4 rfl
    have hfz34_0 := blk_frozen BK136.out 0
    have hfz34_1 := blk_frozen BK136.out 1
    have hfz34_2 := blk_frozen BK136.out 2
    have hfz34_3 := blk_frozen BK136.out 3
    have hfz34_4 := blk_frozen BK136.out 4
    have hcz35_0 : w20.cell? ⟨gb118, 0, none⟩ = some (.slice Ao12 t104.length co12) := sC BK118 0 rfl
    have hcz35_1 : w20.cell? ⟨gb118, 1, none⟩ = some (.slice Ao14 t107.length co14) := sC BK118 1 rfl
    have hcz35_2 : w20.cell? ⟨gb118, 2, none⟩ = some (.slice Ao15 t110.length co15) := sC BK118 2 rfl
    have hcz35_3 : w20.cell? ⟨gb118, 3, none⟩ = some (.slice Ao16 t113.length co16) := sC BK118 3 rfl
    have hcz35_4 : w20.cell? ⟨gb118, 4, none⟩ = some (.int .i64 t116) := sC BK118 4 rfl
    have hfz35_0 := blk_frozen BK118.out 0
    have hfz35_1 := blk_frozen BK118.out 1
    have hfz35_2 := blk_frozen BK118.out 2
    have hfz35_3 := blk_frozen BK118.out 3
    have hfz35_4 := blk_frozen BK118.out 4
    go_wp2_with (first | ((with_reducible refine gate_callee (f := 8) rfl ?_); refine goesL_ (some 31) rfl rfl Try.func8 (by kernel_rfl) rfl #[.agg #[.slice Ao21 t122.length co21, .slice Ao24 t125.length co24, .slice Ao25 t128.length co25, .slice Ao26 t131.length co26, .int .i64 t134], .agg #[.slice Ao12 t104.length co12, .slice Ao14 t107.length co14, .slice Ao15 t110.length co15, .slice Ao16 t113.length co16, .int .i64 t116]] rfl (by (try simp only [List.map_toArray, List.map_cons, List.map_nil]); first | done | rfl | (simp only [List.length_drop, List.length_take]; rfl)) ?_; (with_reducible refine (laws_eqTurns.calls k _ _ t122 _ _ t125 _ _ t128 _ _ t131 t134 _ _ t104 _ _ t107 _ _ t110 _ _ t113 t116 false _ ?side1 ?side2 ?side3 ?side4 ?side5 ?side6 ?side7 ?side8 ?side9 ?side10 ?side11 ?side12 ?side13 ?side14 ?side15 ?side16 A27.out).mono ?_); (case side1 => refine (Kd.R_reads' (e := 3) (base := w.heap.size) (ok := fun k_ => ((((((some k_ ≠ (.slice Ao25 t128.length co25 : Value).ownBlock ∧ some k_ ≠ (.slice Ao26 t131.length co26 : Value).ownBlock) ∧ some k_ ≠ (.slice Ao9 t101.length co9 : Value).ownBlock) ∧ some k_ ≠ (.slice Ao12 t104.length co12 : Value).ownBlock) ∧ some k_ ≠ (.slice Ao15 t110.length co15 : Value).ownBlock) ∧ some k_ ≠ (.slice Ao16 t113.length co16 : Value).ownBlock) ∧ some k_ ≠ (.slice Ao18 t119.length co18 : Value).ownBlock)) (n := t122.length) (c := co21) ?_).2.2; exact (sR (Kd.R_mono (Kd.R_far (p := ⟨gb136, 4, none⟩) (Kd.R_far (p := ⟨gb136, 3, none⟩) (Kd.R_far (p := ⟨gb136, 2, none⟩) (Kd.R_far (p := ⟨gb136, 1, none⟩) (Kd.R_far (p := ⟨gb136, 0, none⟩) (Kd.R_types HO124.out BK136.out (by decide)) (fun _ hk => hk.2) (.slice Ao21 t122.length co21)) (fun _ hk => hk.2) (.slice Ao24 t125.length co24)) (fun _ hk => hk.2) (.slice Ao25 t128.length co25)) (fun _ hk => hk.2) (.slice Ao26 t131.length co26)) (fun _ hk => hk.2) (.int .i64 t134)) (fun _ h_ => h_.1)))); (case side2 => exact (Kd.R_reads' HO124.out).2.1); (case side3 => refine (Kd.S_reads' (e := 22) (base := w.heap.size) (ok := fun k_ => (((((((some k_ ≠ (.slice Ao21 t122.length co21 : Value).ownBlock ∧ (some k_ ≠ (.slice Ao25 t128.length co25 : Value).ownBlock ∧ some k_ ≠ (.slice Ao26 t131.length co26 : Value).ownBlock)) ∧ some k_ ≠ (.slice Ao9 t101.length co9 : Value).ownBlock) ∧ some k_ ≠ (.slice Ao12 t104.length co12 : Value).ownBlock) ∧ some k_ ≠ (.slice Ao14 t107.length co14 : Value).ownBlock) ∧ some k_ ≠ (.slice Ao15 t110.length co15 : Value).ownBlock) ∧ some k_ ≠ (.slice Ao16 t113.length co16 : Value).ownBlock) ∧ some k_ ≠ (.slice Ao18 t119.length co18 : Value).ownBlock)) (n := t125.length) (c := co24) ?_).2.2; exact (by (with_reducible repeat (first | apply Kd.S_alloc | apply Kd.S_drewN | apply Kd.S_drew)); exact (Kd.S_mono (Kd.S_far (p := ⟨gb136, 4, none⟩) (Kd.S_far (p := ⟨gb136, 3, none⟩) (Kd.S_far (p := ⟨gb136, 2, none⟩) (Kd.S_far (p := ⟨gb136, 1, none⟩) (Kd.S_far (p := ⟨gb136, 0, none⟩) (Kd.S_types HO127.out BK136.out (by decide)) (fun _ hk => hk.2) (.slice Ao21 t122.length co21)) (fun _ hk => hk.2) (.slice Ao24 t125.length co24)) (fun _ hk => hk.2) (.slice Ao25 t128.length co25)) (fun _ hk => hk.2) (.slice Ao26 t131.length co26)) (fun _ hk => hk.2) (.int .i64 t134)) (fun _ h_ => h_.1)))); (case side4 => exact (Kd.S_reads' HO127.out).2.1); (case side5 => refine (Kd.R_reads' (e := 3) (base := w.heap.size) (ok := fun k_ => ((((((some k_ ≠ (.slice Ao21 t122.length co21 : Value).ownBlock ∧ some k_ ≠ (.slice Ao26 t131.length co26 : Value).ownBlock) ∧ some k_ ≠ (.slice Ao9 t101.length co9 : Value).ownBlock) ∧ some k_ ≠ (.slice Ao12 t104.length co12 : Value).ownBlock) ∧ some k_ ≠ (.slice Ao15 t110.length co15 : Value).ownBlock) ∧ some k_ ≠ (.slice Ao16 t113.length co16 : Value).ownBlock) ∧ some k_ ≠ (.slice Ao18 t119.length co18 : Value).ownBlock)) (n := t128.length) (c := co25) ?_).2.2; exact (sR (Kd.R_mono (Kd.R_far (p := ⟨gb136, 4, none⟩) (Kd.R_far (p := ⟨gb136, 3, none⟩) (Kd.R_far (p := ⟨gb136, 2, none⟩) (Kd.R_far (p := ⟨gb136, 1, none⟩) (Kd.R_far (p := ⟨gb136, 0, none⟩) (Kd.R_types HO130.out BK136.out (by decide)) (fun _ hk => hk.2) (.slice Ao21 t122.length co21)) (fun _ hk => hk.2) (.slice Ao24 t125.length co24)) (fun _ hk => hk.2) (.slice Ao25 t128.length co25)) (fun _ hk => hk.2) (.slice Ao26 t131.length co26)) (fun _ hk => hk.2) (.int .i64 t134)) (fun _ h_ => h_.1)))); (case side6 => exact (Kd.R_reads' HO130.out).2.1); (case side7 => refine (Kd.R_reads' (e := 3) (base := w.heap.size) (ok := fun k_ => ((((((some k_ ≠ (.slice Ao21 t122.length co21 : Value).ownBlock ∧ some k_ ≠ (.slice Ao25 t128.length co25 : Value).ownBlock) ∧ some k_ ≠ (.slice Ao9 t101.length co9 : Value).ownBlock) ∧ some k_ ≠ (.slice Ao12 t104.length co12 : Value).ownBlock) ∧ some k_ ≠ (.slice Ao15 t110.length co15 : Value).ownBlock) ∧ some k_ ≠ (.slice Ao16 t113.length co16 : Value).ownBlock) ∧ some k_ ≠ (.slice Ao18 t119.length co18 : Value).ownBlock)) (n := t131.length) (c := co26) ?_).2.2; exact (sR (Kd.R_mono (Kd.R_far (p := ⟨gb136, 4, none⟩) (Kd.R_far (p := ⟨gb136, 3, none⟩) (Kd.R_far (p := ⟨gb136, 2, none⟩) (Kd.R_far (p := ⟨gb136, 1, none⟩) (Kd.R_far (p := ⟨gb136, 0, none⟩) (Kd.R_types HO133.out BK136.out (by decide)) (fun _ hk => hk.2) (.slice Ao21 t122.length co21)) (fun _ hk => hk.2) (.slice Ao24 t125.length co24)) (fun _ hk => hk.2) (.slice Ao25 t128.length co25)) (fun _ hk => hk.2) (.slice Ao26 t131.length co26)) (fun _ hk => hk.2) (.int .i64 t134)) (fun _ h_ => h_.1)))); (case side8 => exact (Kd.R_reads' HO133.out).2.1); (case side9 => refine (Kd.R_reads' (e := 3) (base := w.heap.size) (ok := fun k_ => ((((((some k_ ≠ (.slice Ao15 t110.length co15 : Value).ownBlock ∧ some k_ ≠ (.slice Ao16 t113.length co16 : Value).ownBlock) ∧ some k_ ≠ (.slice Ao9 t101.length co9 : Value).ownBlock) ∧ some k_ ≠ (.slice Ao18 t119.length co18 : Value).ownBlock) ∧ some k_ ≠ (.slice Ao21 t122.length co21 : Value).ownBlock) ∧ some k_ ≠ (.slice Ao25 t128.length co25 : Value).ownBlock) ∧ some k_ ≠ (.slice Ao26 t131.length co26 : Value).ownBlock)) (n := t104.length) (c := co12) ?_).2.2; exact (sR (Kd.R_mono (Kd.R_far (p := ⟨gb136, 4, none⟩) (Kd.R_far (p := ⟨gb136, 3, none⟩) (Kd.R_far (p := ⟨gb136, 2, none⟩) (Kd.R_far (p := ⟨gb136, 1, none⟩) (Kd.R_far (p := ⟨gb136, 0, none⟩) (Kd.R_types HO106.out BK136.out (by decide)) (fun _ hk => hk.2) (.slice Ao21 t122.length co21)) (fun _ hk => hk.2) (.slice Ao24 t125.length co24)) (fun _ hk => hk.2) (.slice Ao25 t128.length co25)) (fun _ hk => hk.2) (.slice Ao26 t131.length co26)) (fun _ hk => hk.2) (.int .i64 t134)) (fun _ h_ => h_.1)))); (case side10 => exact (Kd.R_reads' HO106.out).2.1); (case side11 => refine (Kd.S_reads' (e := 22) (base := w.heap.size) (ok := fun k_ => (((((((some k_ ≠ (.slice Ao12 t104.length co12 : Value).ownBlock ∧ (some k_ ≠ (.slice Ao15 t110.length co15 : Value).ownBlock ∧ some k_ ≠ (.slice Ao16 t113.length co16 : Value).ownBlock)) ∧ some k_ ≠ (.slice Ao9 t101.length co9 : Value).ownBlock) ∧ some k_ ≠ (.slice Ao18 t119.length co18 : Value).ownBlock) ∧ some k_ ≠ (.slice Ao21 t122.length co21 : Value).ownBlock) ∧ some k_ ≠ (.slice Ao24 t125.length co24 : Value).ownBlock) ∧ some k_ ≠ (.slice Ao25 t128.length co25 : Value).ownBlock) ∧ some k_ ≠ (.slice Ao26 t131.length co26 : Value).ownBlock)) (n := t107.length) (c := co14) ?_).2.2; exact (by (with_reducible repeat (first | apply Kd.S_alloc | apply Kd.S_drewN | apply Kd.S_drew)); exact (Kd.S_mono (Kd.S_far (p := ⟨gb136, 4, none⟩) (Kd.S_far (p := ⟨gb136, 3, none⟩) (Kd.S_far (p := ⟨gb136, 2, none⟩) (Kd.S_far (p := ⟨gb136, 1, none⟩) (Kd.S_far (p := ⟨gb136, 0, none⟩) (Kd.S_types HO109.out BK136.out (by decide)) (fun _ hk => hk.2) (.slice Ao21 t122.length co21)) (fun _ hk => hk.2) (.slice Ao24 t125.length co24)) (fun _ hk => hk.2) (.slice Ao25 t128.length co25)) (fun _ hk => hk.2) (.slice Ao26 t131.length co26)) (fun _ hk => hk.2) (.int .i64 t134)) (fun _ h_ => h_.1)))); (case side12 => exact (Kd.S_reads' HO109.out).2.1); (case side13 => refine (Kd.R_reads' (e := 3) (base := w.heap.size) (ok := fun k_ => ((((((some k_ ≠ (.slice Ao12 t104.length co12 : Value).ownBlock ∧ some k_ ≠ (.slice Ao16 t113.length co16 : Value).ownBlock) ∧ some k_ ≠ (.slice Ao9 t101.length co9 : Value).ownBlock) ∧ some k_ ≠ (.slice Ao18 t119.length co18 : Value).ownBlock) ∧ some k_ ≠ (.slice Ao21 t122.length co21 : Value).ownBlock) ∧ some k_ ≠ (.slice Ao25 t128.length co25 : Value).ownBlock) ∧ some k_ ≠ (.slice Ao26 t131.length co26 : Value).ownBlock)) (n := t110.length) (c := co15) ?_).2.2; exact (sR (Kd.R_mono (Kd.R_far (p := ⟨gb136, 4, none⟩) (Kd.R_far (p := ⟨gb136, 3, none⟩) (Kd.R_far (p := ⟨gb136, 2, none⟩) (Kd.R_far (p := ⟨gb136, 1, none⟩) (Kd.R_far (p := ⟨gb136, 0, none⟩) (Kd.R_types HO112.out BK136.out (by decide)) (fun _ hk => hk.2) (.slice Ao21 t122.length co21)) (fun _ hk => hk.2) (.slice Ao24 t125.length co24)) (fun _ hk => hk.2) (.slice Ao25 t128.length co25)) (fun _ hk => hk.2) (.slice Ao26 t131.length co26)) (fun _ hk => hk.2) (.int .i64 t134)) (fun _ h_ => h_.1)))); (case side14 => exact (Kd.R_reads' HO112.out).2.1); (case side15 => refine (Kd.R_reads' (e := 3) (base := w.heap.size) (ok := fun k_ => ((((((some k_ ≠ (.slice Ao12 t104.length co12 : Value).ownBlock ∧ some k_ ≠ (.slice Ao15 t110.length co15 : Value).ownBlock) ∧ some k_ ≠ (.slice Ao9 t101.length co9 : Value).ownBlock) ∧ some k_ ≠ (.slice Ao18 t119.length co18 : Value).ownBlock) ∧ some k_ ≠ (.slice Ao21 t122.length co21 : Value).ownBlock) ∧ some k_ ≠ (.slice Ao25 t128.length co25 : Value).ownBlock) ∧ some k_ ≠ (.slice Ao26 t131.length co26 : Value).ownBlock)) (n := t113.length) (c := co16) ?_).2.2; exact (sR (Kd.R_mono (Kd.R_far (p := ⟨gb136, 4, none⟩) (Kd.R_far (p := ⟨gb136, 3, none⟩) (Kd.R_far (p := ⟨gb136, 2, none⟩) (Kd.R_far (p := ⟨gb136, 1, none⟩) (Kd.R_far (p := ⟨gb136, 0, none⟩) (Kd.R_types HO115.out BK136.out (by decide)) (fun _ hk => hk.2) (.slice Ao21 t122.length co21)) (fun _ hk => hk.2) (.slice Ao24 t125.length co24)) (fun _ hk => hk.2) (.slice Ao25 t128.length co25)) (fun _ hk => hk.2) (.slice Ao26 t131.length co26)) (fun _ hk => hk.2) (.int .i64 t134)) (fun _ h_ => h_.1)))); (case side16 => exact (Kd.R_reads' HO115.out).2.1); rintro e w36 ⟨rfl, hb⟩; refine ⟨_, rfl, ?_⟩; have n0_ := sA (Kd.R_below (sR (Kd.R_mono (Kd.R_far (p := ⟨gb136, 4, none⟩) (Kd.R_far (p := ⟨gb136, 3, none⟩) (Kd.R_far (p := ⟨gb136, 2, none⟩) (Kd.R_far (p := ⟨gb136, 1, none⟩) (Kd.R_far (p := ⟨gb136, 0, none⟩) (Kd.R_types HO103.out BK136.out (by decide)) (fun _ hk => hk.2) (.slice Ao21 t122.length co21)) (fun _ hk => hk.2) (.slice Ao24 t125.length co24)) (fun _ hk => hk.2) (.slice Ao25 t128.length co25)) (fun _ hk => hk.2) (.slice Ao26 t131.length co26)) (fun _ hk => hk.2) (.int .i64 t134)) (fun _ h_ => h_.1))) hb); have n1_ := sA (Kd.R_below (sR (Kd.R_mono (Kd.R_far (p := ⟨gb136, 4, none⟩) (Kd.R_far (p := ⟨gb136, 3, none⟩) (Kd.R_far (p := ⟨gb136, 2, none⟩) (Kd.R_far (p := ⟨gb136, 1, none⟩) (Kd.R_far (p := ⟨gb136, 0, none⟩) (Kd.R_types HO106.out BK136.out (by decide)) (fun _ hk => hk.2) (.slice Ao21 t122.length co21)) (fun _ hk => hk.2) (.slice Ao24 t125.length co24)) (fun _ hk => hk.2) (.slice Ao25 t128.length co25)) (fun _ hk => hk.2) (.slice Ao26 t131.length co26)) (fun _ hk => hk.2) (.int .i64 t134)) (fun _ h_ => h_.1))) hb); have n2_ := sA (Kd.S_below (by (with_reducible repeat (first | apply Kd.S_alloc | apply Kd.S_drewN | apply Kd.S_drew)); exact (Kd.S_mono (Kd.S_far (p := ⟨gb136, 4, none⟩) (Kd.S_far (p := ⟨gb136, 3, none⟩) (Kd.S_far (p := ⟨gb136, 2, none⟩) (Kd.S_far (p := ⟨gb136, 1, none⟩) (Kd.S_far (p := ⟨gb136, 0, none⟩) (Kd.S_types HO109.out BK136.out (by decide)) (fun _ hk => hk.2) (.slice Ao21 t122.length co21)) (fun _ hk => hk.2) (.slice Ao24 t125.length co24)) (fun _ hk => hk.2) (.slice Ao25 t128.length co25)) (fun _ hk => hk.2) (.slice Ao26 t131.length co26)) (fun _ hk => hk.2) (.int .i64 t134)) (fun _ h_ => h_.1))) hb); have n3_ := sA (Kd.R_below (sR (Kd.R_mono (Kd.R_far (p := ⟨gb136, 4, none⟩) (Kd.R_far (p := ⟨gb136, 3, none⟩) (Kd.R_far (p := ⟨gb136, 2, none⟩) (Kd.R_far (p := ⟨gb136, 1, none⟩) (Kd.R_far (p := ⟨gb136, 0, none⟩) (Kd.R_types HO112.out BK136.out (by decide)) (fun _ hk => hk.2) (.slice Ao21 t122.length co21)) (fun _ hk => hk.2) (.slice Ao24 t125.length co24)) (fun _ hk => hk.2) (.slice Ao25 t128.length co25)) (fun _ hk => hk.2) (.slice Ao26 t131.length co26)) (fun _ hk => hk.2) (.int .i64 t134)) (fun _ h_ => h_.1))) hb); have n4_ := sA (Kd.R_below (sR (Kd.R_mono (Kd.R_far (p := ⟨gb136, 4, none⟩) (Kd.R_far (p := ⟨gb136, 3, none⟩) (Kd.R_far (p := ⟨gb136, 2, none⟩) (Kd.R_far (p := ⟨gb136, 1, none⟩) (Kd.R_far (p := ⟨gb136, 0, none⟩) (Kd.R_types HO115.out BK136.out (by decide)) (fun _ hk => hk.2) (.slice Ao21 t122.length co21)) (fun _ hk => hk.2) (.slice Ao24 t125.length co24)) (fun _ hk => hk.2) (.slice Ao25 t128.length co25)) (fun _ hk => hk.2) (.slice Ao26 t131.length co26)) (fun _ hk => hk.2) (.int .i64 t134)) (fun _ h_ => h_.1))) hb); have n5_ := sA (Kd.R_below (sR (Kd.R_mono (Kd.R_far (p := ⟨gb136, 4, none⟩) (Kd.R_far (p := ⟨gb136, 3, none⟩) (Kd.R_far (p := ⟨gb136, 2, none⟩) (Kd.R_far (p := ⟨gb136, 1, none⟩) (Kd.R_far (p := ⟨gb136, 0, none⟩) (Kd.R_types HO121.out BK136.out (by decide)) (fun _ hk => hk.2) (.slice Ao21 t122.length co21)) (fun _ hk => hk.2) (.slice Ao24 t125.length co24)) (fun _ hk => hk.2) (.slice Ao25 t128.length co25)) (fun _ hk => hk.2) (.slice Ao26 t131.length co26)) (fun _ hk => hk.2) (.int .i64 t134)) (fun _ h_ => h_.1))) hb); have n6_ := sA (Kd.R_below (sR (Kd.R_mono (Kd.R_far (p := ⟨gb136, 4, none⟩) (Kd.R_far (p := ⟨gb136, 3, none⟩) (Kd.R_far (p := ⟨gb136, 2, none⟩) (Kd.R_far (p := ⟨gb136, 1, none⟩) (Kd.R_far (p := ⟨gb136, 0, none⟩) (Kd.R_types HO124.out BK136.out (by decide)) (fun _ hk => hk.2) (.slice Ao21 t122.length co21)) (fun _ hk => hk.2) (.slice Ao24 t125.length co24)) (fun _ hk => hk.2) (.slice Ao25 t128.length co25)) (fun _ hk => hk.2) (.slice Ao26 t131.length co26)) (fun _ hk => hk.2) (.int .i64 t134)) (fun _ h_ => h_.1))) hb); have n7_ := sA (Kd.S_below (by (with_reducible repeat (first | apply Kd.S_alloc | apply Kd.S_drewN | apply Kd.S_drew)); exact (Kd.S_mono (Kd.S_far (p := ⟨gb136, 4, none⟩) (Kd.S_far (p := ⟨gb136, 3, none⟩) (Kd.S_far (p := ⟨gb136, 2, none⟩) (Kd.S_far (p := ⟨gb136, 1, none⟩) (Kd.S_far (p := ⟨gb136, 0, none⟩) (Kd.S_types HO127.out BK136.out (by decide)) (fun _ hk => hk.2) (.slice Ao21 t122.length co21)) (fun _ hk => hk.2) (.slice Ao24 t125.length co24)) (fun _ hk => hk.2) (.slice Ao25 t128.length co25)) (fun _ hk => hk.2) (.slice Ao26 t131.length co26)) (fun _ hk => hk.2) (.int .i64 t134)) (fun _ h_ => h_.1))) hb); have n8_ := sA (Kd.R_below (sR (Kd.R_mono (Kd.R_far (p := ⟨gb136, 4, none⟩) (Kd.R_far (p := ⟨gb136, 3, none⟩) (Kd.R_far (p := ⟨gb136, 2, none⟩) (Kd.R_far (p := ⟨gb136, 1, none⟩) (Kd.R_far (p := ⟨gb136, 0, none⟩) (Kd.R_types HO130.out BK136.out (by decide)) (fun _ hk => hk.2) (.slice Ao21 t122.length co21)) (fun _ hk => hk.2) (.slice Ao24 t125.length co24)) (fun _ hk => hk.2) (.slice Ao25 t128.length co25)) (fun _ hk => hk.2) (.slice Ao26 t131.length co26)) (fun _ hk => hk.2) (.int .i64 t134)) (fun _ h_ => h_.1))) hb); have n9_ := sA (Kd.R_below (sR (Kd.R_mono (Kd.R_far (p := ⟨gb136, 4, none⟩) (Kd.R_far (p := ⟨gb136, 3, none⟩) (Kd.R_far (p := ⟨gb136, 2, none⟩) (Kd.R_far (p := ⟨gb136, 1, none⟩) (Kd.R_far (p := ⟨gb136, 0, none⟩) (Kd.R_types HO133.out BK136.out (by decide)) (fun _ hk => hk.2) (.slice Ao21 t122.length co21)) (fun _ hk => hk.2) (.slice Ao24 t125.length co24)) (fun _ hk => hk.2) (.slice Ao25 t128.length co25)) (fun _ hk => hk.2) (.slice Ao26 t131.length co26)) (fun _ hk => hk.2) (.int .i64 t134)) (fun _ h_ => h_.1))) hb); have n10_ := sA (blk_below (g := gb118) (o := .cells #[.slice Ao12 t104.length co12, .slice Ao14 t107.length co14, .slice Ao15 t110.length co15, .slice Ao16 t113.length co16, .int .i64 t116] 25 (0, 0)) (by (with_reducible repeat first | apply blk_drewN | apply blk_drew | apply blk_alloc); refine blk_far ?_ NB118_136.out _; (with_reducible repeat first | apply blk_drewN | apply blk_drew | apply blk_alloc); refine blk_far ?_ NB118_136.out _; (with_reducible repeat first | apply blk_drewN | apply blk_drew | apply blk_alloc); refine blk_far ?_ NB118_136.out _; (with_reducible repeat first | apply blk_drewN | apply blk_drew | apply blk_alloc); refine blk_far ?_ NB118_136.out _; (with_reducible repeat first | apply blk_drewN | apply blk_drew | apply blk_alloc); refine blk_far ?_ NB118_136.out _; (with_reducible repeat first | apply blk_drewN | apply blk_drew | apply blk_alloc); exact BK118.out) hb); have n11_ := sA (blk_below (g := gb136) (o := .cells #[.slice Ao21 t122.length co21, .slice Ao24 t125.length co24, .slice Ao25 t128.length co25, .slice Ao26 t131.length co26, .int .i64 t134] 25 (0, 0)) (by (with_reducible repeat first | apply blk_drewN | apply blk_drew | apply blk_alloc); refine blk_put (cs := #[.slice Ao21 t122.length co21, .slice Ao24 t125.length co24, .slice Ao25 t128.length co25, .slice Ao26 t131.length co26, .int .i64 0]) ?_ 4 _ rfl; (with_reducible repeat first | apply blk_drewN | apply blk_drew | apply blk_alloc); refine blk_put (cs := #[.slice Ao21 t122.length co21, .slice Ao24 t125.length co24, .slice Ao25 t128.length co25, .slice none 0 0, .int .i64 0]) ?_ 3 _ rfl; (with_reducible repeat first | apply blk_drewN | apply blk_drew | apply blk_alloc); refine blk_put (cs := #[.slice Ao21 t122.length co21, .slice Ao24 t125.length co24, .slice none 0 0, .slice none 0 0, .int .i64 0]) ?_ 2 _ rfl; (with_reducible repeat first | apply blk_drewN | apply blk_drew | apply blk_alloc); refine blk_put (cs := #[.slice Ao21 t122.length co21, .slice none 0 0, .slice none 0 0, .slice none 0 0, .int .i64 0]) ?_ 1 _ rfl; (with_reducible repeat first | apply blk_drewN | apply blk_drew | apply blk_alloc); refine blk_put (cs := #[.slice none 0 0, .slice none 0 0, .slice none 0 0, .slice none 0 0, .int .i64 0]) ?_ 0 _ rfl; (with_reducible repeat first | apply blk_drewN | apply blk_drew | apply blk_alloc); exact BK136.out) hb); have n12_ := sA (below_step (by repeat (first | (with_reducible first | exact HB.out | apply sLA | apply sLN | apply sLD | refine sLS ?_ (Aside0.out (by assumption))) | exact HB.out)) hb); clear HO103; clear HO106; clear HO109; clear HO112; clear HO115; clear HO121; clear HO124; clear HO127; clear HO130; clear HO133; clear BK118; clear BK136; clear HB; have HO103 := n0_; have HO106 := n1_; have HO109 := n2_; have HO112 := n3_; have HO115 := n4_; have HO121 := n5_; have HO124 := n6_; have HO127 := n7_; have HO130 := n8_; have HO133 := n9_; have BK118 := n10_; have BK136 := n11_; have HB := n12_; clear n0_ n1_ n2_ n3_ n4_ n5_ n6_ n7_ n8_ n9_ n10_ n11_ n12_; (try clear hb); (try clear hb2); (try clear hk); (try clear hi)))
    go_meet
    case rel => exact ⟨_, (true), (by first | rfl | (simp; done) | (simp [*]; done)), H', ⟨by first | omega | exact Nat.le_refl _⟩, ⟨sR (Kd.R_mono HO121.out (fun _ hk => ⟨hk.1.1.1.1.1.2, ⟨hk.1.1.1.1.2, ⟨hk.1.1.1.2, ⟨hk.1.1.2, ⟨hk.1.2, hk.2⟩⟩⟩⟩⟩))⟩, ⟨sR (Kd.R_mono HO106.out (fun _ hk => ⟨hk.1.1.1.2, ⟨hk.1.1.1.1.1.1, ⟨hk.1.1.1.1.1.2, ⟨hk.1.1.2, ⟨hk.1.2, hk.2⟩⟩⟩⟩⟩))⟩, ⟨by (with_reducible repeat (first | apply Kd.S_alloc | apply Kd.S_drewN | apply Kd.S_drew)); exact Kd.S_mono HO109.out (fun _ hk => ⟨hk.1.1.1.1.2, ⟨hk.1.1.1.1.1.1.1, ⟨hk.1.1.1.1.1.1.2.1, ⟨hk.1.1.1.1.1.1.2.2, ⟨hk.1.1.1.2, ⟨hk.1.1.2, ⟨hk.1.2, hk.2⟩⟩⟩⟩⟩⟩⟩)⟩, ⟨sR (Kd.R_mono HO112.out (fun _ hk => ⟨hk.1.1.1.2, ⟨hk.1.1.1.1.1.1, ⟨hk.1.1.1.1.1.2, ⟨hk.1.1.2, ⟨hk.1.2, hk.2⟩⟩⟩⟩⟩))⟩, ⟨sR (Kd.R_mono HO115.out (fun _ hk => ⟨hk.1.1.1.2, ⟨hk.1.1.1.1.1.1, ⟨hk.1.1.1.1.1.2, ⟨hk.1.1.2, ⟨hk.1.2, hk.2⟩⟩⟩⟩⟩))⟩, ⟨sR (Kd.R_mono HO124.out (fun _ hk => ⟨hk.2, ⟨hk.1.1.1.2, ⟨hk.1.1.2, ⟨hk.1.2, ⟨hk.1.1.1.1.1.1, hk.1.1.1.1.1.2⟩⟩⟩⟩⟩))⟩, ⟨by (with_reducible repeat (first | apply Kd.S_alloc | apply Kd.S_drewN | apply Kd.S_drew)); exact Kd.S_mono HO127.out (fun _ hk => ⟨hk.2, ⟨hk.1.1.1.1.2, ⟨hk.1.1.1.2, ⟨hk.1.1.2, ⟨hk.1.2, ⟨hk.1.1.1.1.1.1.1, ⟨hk.1.1.1.1.1.1.2.1, hk.1.1.1.1.1.1.2.2⟩⟩⟩⟩⟩⟩⟩)⟩, ⟨sR (Kd.R_mono HO130.out (fun _ hk => ⟨hk.2, ⟨hk.1.1.1.2, ⟨hk.1.1.2, ⟨hk.1.2, ⟨hk.1.1.1.1.1.1, hk.1.1.1.1.1.2⟩⟩⟩⟩⟩))⟩, ⟨sR (Kd.R_mono HO133.out (fun _ hk => ⟨hk.2, ⟨hk.1.1.1.2, ⟨hk.1.1.2, ⟨hk.1.2, ⟨hk.1.1.1.1.1.1, hk.1.1.1.1.1.2⟩⟩⟩⟩⟩))⟩, ⟨sB BK118.out⟩, ⟨sB BK136.out⟩, ⟨by repeat (first | (with_reducible first | exact HB.out | apply sLA | apply sLN | apply sLD | refine sLS ?_ GE118.out | refine sLS ?_ GE136.out) | exact HB.out)⟩⟩
  case rest =>
   clear HC7
   try clear c2
   try clear c2b0
   try clear c2b1
   try clear p2
   try clear c3
   try clear c5
   try clear c6
   try clear c7
   try clear c8
   try clear c22
   try clear c28
   try clear c29
   try clear c33
   try clear hcz13_0
   try clear hcz13_1
   try clear hcz13_2
   try clear hcz13_3
   try clear hcz13_4
   try clear hcz23_0
   try clear hcz23_1
   try clear hcz23_2
   try clear hcz23_3
   try clear hcz23_4
   try clear hcz30_0
   try clear hcz30_1
   try clear hcz30_2
   try clear hcz30_3
   try clear hcz30_4
   try clear hcz31_0
   try clear hcz31_1
   try clear hcz31_2
   try clear hcz31_3
   try clear hcz31_4
   try clear hcz34_0
   try clear hcz34_1
   try clear hcz34_2
   try clear hcz34_3
   try clear hcz34_4
   try clear hcz35_0
   try clear hcz35_1
   try clear hcz35_2
   try clear hcz35_3
   try clear hcz35_4
   try clear hfz13_0
   try clear hfz13_1
   try clear hfz13_2
   try clear hfz13_3
   try clear hfz13_4
   try clear hfz23_0
   try clear hfz23_1
   try clear hfz23_2
   try clear hfz23_3
   try clear hfz23_4
   try clear hfz30_0
   try clear hfz30_1
   try clear hfz30_2
   try clear hfz30_3
   try clear hfz30_4
   try clear hfz31_0
   try clear hfz31_1
   try clear hfz31_2
   try clear hfz31_3
   try clear hfz31_4
   try clear hfz34_0
   try clear hfz34_1
   try clear hfz34_2
   try clear hfz34_3
   try clear hfz34_4
   try clear hfz35_0
   try clear hfz35_1
   try clear hfz35_2
   try clear hfz35_3
   try clear hfz35_4
   obtain ⟨kq, x37_6, rfl, HA, HJ6, HO_5, HO_119000, HO_119001, HO_119002, HO_119003, HO_137000, HO_137001, HO_137002, HO_137003, BK118, BK136, HB⟩ := hcut
   cases kq with
   | zero => exact absurd HA.out (by simp [laws_FnExactNewTurns.j0])
   | succ kj6 =>
    have H := HA.out
    clear HA
    simp only [laws_FnExactNewTurns.j0] at H
    by_cases c37 : x37_6 = true
    ·subst c37
     have H1 : (some false) = some r := by rw [if_pos rfl] at H; exact H
     clear H
     have H := H1
     clear H1
     exact absurd (hr_.symm.trans (Option.some.inj H).symm) (by decide)
    ·replace c37 := Bool.eq_false_iff.mpr c37
     subst c37
     have H1 : ((laws_toIntS.f kj6 l0).bind fun t138 => ((laws_eqIntS.f kj6 t119 t138).bind fun t141 => (if t141 = true then ((laws_markIntS.f kj6 t119 1).bind fun bt142 => (if bt142.1 < 0 then (laws_FnExactNewTurns.j1 kj6 l0 t117 true t104 t107 t110 t113 t116 t122 t125 t128 t131 t134) else ((laws_eqTurns.f kj6 t122 t125 t128 t131 t134 t104 t107 t110 t113 t116).bind fun t144 => (if t144 = true then (laws_FnExactNewTurns.j1 kj6 l0 t117 (t135 != t117) t104 t107 t110 t113 t116 t122 t125 t128 t131 t134) else (laws_FnExactNewTurns.j1 kj6 l0 t117 true t104 t107 t110 t113 t116 t122 t125 t128 t131 t134))))) else (some false)))) = some r := by rw [if_neg (show ¬ (false = true) by decide)] at H; exact H
     clear H
     have H := H1
     clear H1
     replace H := Option.bind_eq_some_iff.mp H
     obtain ⟨t138, A380, H⟩ := H
     replace H : ((laws_eqIntS.f kj6 t119 t138).bind fun t141 => (if t141 = true then ((laws_markIntS.f kj6 t119 1).bind fun bt142 => (if bt142.1 < 0 then (laws_FnExactNewTurns.j1 kj6 l0 t117 true t104 t107 t110 t113 t116 t122 t125 t128 t131 t134) else ((laws_eqTurns.f kj6 t122 t125 t128 t131 t134 t104 t107 t110 t113 t116).bind fun t144 => (if t144 = true then (laws_FnExactNewTurns.j1 kj6 l0 t117 (t135 != t117) t104 t107 t110 t113 t116 t122 t125 t128 t131 t134) else (laws_FnExactNewTurns.j1 kj6 l0 t117 true t104 t107 t110 t113 t116 t122 t125 t128 t131 t134))))) else (some false))) = some r := H
     have A38 := sA A380
     clear A380
     replace H := Option.bind_eq_some_iff.mp H
     obtain ⟨t141, A390, H⟩ := H
     replace H : (if t141 = true then ((laws_markIntS.f kj6 t119 1).bind fun bt142 => (if bt142.1 < 0 then (laws_FnExactNewTurns.j1 kj6 l0 t117 true t104 t107 t110 t113 t116 t122 t125 t128 t131 t134) else ((laws_eqTurns.f kj6 t122 t125 t128 t131 t134 t104 t107 t110 t113 t116).bind fun t144 => (if t144 = true then (laws_FnExactNewTurns.j1 kj6 l0 t117 (t135 != t117) t104 t107 t110 t113 t116 t122 t125 t128 t131 t134) else (laws_FnExactNewTurns.j1 kj6 l0 t117 true t104 t107 t110 t113 t116 t122 t125 t128 t131 t134))))) else (some false)) = some r := H
     have A39 := sA A390
     clear A390
     by_cases c40 : t141 = true
     ·subst c40
      have H1 : ((laws_markIntS.f kj6 t119 1).bind fun bt142 => (if bt142.1 < 0 then (laws_FnExactNewTurns.j1 kj6 l0 t117 true t104 t107 t110 t113 t116 t122 t125 t128 t131 t134) else ((laws_eqTurns.f kj6 t122 t125 t128 t131 t134 t104 t107 t110 t113 t116).bind fun t144 => (if t144 = true then (laws_FnExactNewTurns.j1 kj6 l0 t117 (t135 != t117) t104 t107 t110 t113 t116 t122 t125 t128 t131 t134) else (laws_FnExactNewTurns.j1 kj6 l0 t117 true t104 t107 t110 t113 t116 t122 t125 t128 t131 t134))))) = some r := by rw [if_pos rfl] at H; exact H
      clear H
      have H := H1
      clear H1
      replace H := Option.bind_eq_some_iff.mp H
      obtain ⟨⟨t142, t143⟩, A410, H⟩ := H
      replace H : (if t142 < 0 then (laws_FnExactNewTurns.j1 kj6 l0 t117 true t104 t107 t110 t113 t116 t122 t125 t128 t131 t134) else ((laws_eqTurns.f kj6 t122 t125 t128 t131 t134 t104 t107 t110 t113 t116).bind fun t144 => (if t144 = true then (laws_FnExactNewTurns.j1 kj6 l0 t117 (t135 != t117) t104 t107 t110 t113 t116 t122 t125 t128 t131 t134) else (laws_FnExactNewTurns.j1 kj6 l0 t117 true t104 t107 t110 t113 t116 t122 t125 t128 t131 t134)))) = some r := H
      have A41 := sA A410
      clear A410
      have HC42 := sA H
      clear H
      go_upto_region 12 with (first | ((with_reducible refine gate_callee (f := 6) rfl ?_); refine goesL_ (some 40) rfl rfl Try.func6 (by kernel_rfl) rfl #[.slice A0 l0.length c0] rfl (by (try simp only [List.map_toArray, List.map_cons, List.map_nil]); first | done | rfl | (simp only [List.length_drop, List.length_take]; rfl)) ?_; (with_reducible refine (laws_toIntS.calls kj6 _ _ l0 t138 _ ?side1 ?side2 A38.out).mono ?_); (case side1 => repeat (first | exact (Kd.C_below HR0.out HB.out) | (with_reducible refine Kd.C_alloc ?_ _) | (with_reducible refine Kd.C_drewN ?_ _) | (with_reducible refine Kd.C_drew ?_))); (case side2 => exact HC0.out); rintro e w43 ⟨v139, rfl, ho0, hb⟩; refine ⟨_, rfl, ?_⟩; have n0_ := sA (Kd.R_elder' (sR HO_5.out) (Kd.R_base ho0) hb); have n1_ := sA (Kd.R_elder' (sR HO_119000.out) (Kd.R_base ho0) hb); have n2_ := sA (Kd.S_elder' (by (with_reducible repeat (first | apply Kd.S_alloc | apply Kd.S_drewN | apply Kd.S_drew)); exact HO_119001.out) (Kd.R_base ho0) hb); have n3_ := sA (Kd.R_elder' (sR HO_119002.out) (Kd.R_base ho0) hb); have n4_ := sA (Kd.R_elder' (sR HO_119003.out) (Kd.R_base ho0) hb); have n5_ := sA (Kd.R_elder' (sR HO_137000.out) (Kd.R_base ho0) hb); have n6_ := sA (Kd.S_elder' (by (with_reducible repeat (first | apply Kd.S_alloc | apply Kd.S_drewN | apply Kd.S_drew)); exact HO_137001.out) (Kd.R_base ho0) hb); have n7_ := sA (Kd.R_elder' (sR HO_137002.out) (Kd.R_base ho0) hb); have n8_ := sA (Kd.R_elder' (sR HO_137003.out) (Kd.R_base ho0) hb); have n9_ := sA (Kd.R_lower (Kd.R_new' (Kd.R_new' (Kd.R_new' (Kd.R_new' (Kd.R_new' (Kd.R_new' (Kd.R_new' ho0 (Kd.R_lt (sR HO_5.out))) (Kd.R_lt (sR HO_119000.out))) (Kd.R_lt (sR HO_119002.out))) (Kd.R_lt (sR HO_119003.out))) (Kd.R_lt (sR HO_137000.out))) (Kd.R_lt (sR HO_137002.out))) (Kd.R_lt (sR HO_137003.out))) (below_size (by repeat (first | (with_reducible first | exact HB.out | apply sLA | apply sLN | apply sLD | refine sLS ?_ (Aside0.out (by assumption))) | exact HB.out)))); have n10_ := sA (blk_below (sB BK118.out) hb); have n11_ := sA (blk_below (sB BK136.out) hb); have n12_ := sA (below_step (by repeat (first | (with_reducible first | exact HB.out | apply sLA | apply sLN | apply sLD | refine sLS ?_ (Aside0.out (by assumption))) | exact HB.out)) hb); clear HO_5; clear HO_119000; clear HO_119001; clear HO_119002; clear HO_119003; clear HO_137000; clear HO_137001; clear HO_137002; clear HO_137003; clear BK118; clear BK136; clear HB; have HO_5 := n0_; have HO_119000 := n1_; have HO_119001 := n2_; have HO_119002 := n3_; have HO_119003 := n4_; have HO_137000 := n5_; have HO_137001 := n6_; have HO_137002 := n7_; have HO_137003 := n8_; have HO140 := n9_; have BK118 := n10_; have BK136 := n11_; have HB := n12_; clear n0_ n1_ n2_ n3_ n4_ n5_ n6_ n7_ n8_ n9_ n10_ n11_ n12_; (try clear hb); (try clear hb2); (try clear hk); (try clear hi); (try clear ho0); obtain ⟨Ao44, co44, eo44⟩ := Kd.R_slice HO140.out; subst eo44) | ((with_reducible refine gate_callee (f := 9) rfl ?_); refine goesL_ (some 41) rfl rfl Try.func9 (by kernel_rfl) rfl #[.slice Ao18 t119.length co18, .slice Ao44 t138.length co44] rfl (by (try simp only [List.map_toArray, List.map_cons, List.map_nil]); first | done | rfl | (simp only [List.length_drop, List.length_take]; rfl)) ?_; (with_reducible refine (laws_eqIntS.calls kj6 _ _ t119 _ _ t138 true _ ?side1 ?side2 ?side3 ?side4 A39.out).mono ?_); (case side1 => repeat (first | exact (Kd.R_reads' HO_5.out).2.2 | (with_reducible refine Kd.C_alloc ?_ _) | (with_reducible refine Kd.C_drewN ?_ _) | (with_reducible refine Kd.C_drew ?_))); (case side2 => exact (Kd.R_reads' HO_5.out).2.1); (case side3 => repeat (first | exact (Kd.R_reads' HO140.out).2.2 | (with_reducible refine Kd.C_alloc ?_ _) | (with_reducible refine Kd.C_drewN ?_ _) | (with_reducible refine Kd.C_drew ?_))); (case side4 => exact (Kd.R_reads' HO140.out).2.1); rintro e w' ⟨rfl, ⟨nd, rfl⟩⟩; refine ⟨_, rfl, ?_⟩) | ((with_reducible refine gate_callee (f := 10) rfl ?_); refine goesL_ (some 45) rfl rfl Try.func10 (by kernel_rfl) rfl #[.slice Ao18 t119.length co18, .int .i64 1] rfl (by (try simp only [List.map_toArray, List.map_cons, List.map_nil]); first | done | rfl | (simp only [List.length_drop, List.length_take]; rfl)) ?_; (with_reducible refine (laws_markIntS.calls kj6 (fun k_ => some k_ = (.slice Ao18 t119.length co18 : Value).ownBlock) (.slice Ao18 t119.length co18) t119 1 t142 t143 w _ ?side1 ?side2 A41.out).mono ?_); (case side1 => repeat (first | (with_reducible first | exact HB.out | apply sLA | apply sLN | apply sLD | refine sLS ?_ GE118.out | refine sLS ?_ GE136.out) | exact HB.out)); (case side2 => exact Kd.R_tight rfl HO_5.out); rintro e w45 ⟨rfl, hy0, hb, hkp⟩; refine ⟨_, rfl, ?_⟩; have n0_ := sA (Kd.R_reok rfl hy0 (fun k_ e_ => HO_5.out.1 k_ e_)); have n1_ := sA (Kd.R_mono (ok' := fun k_ => some k_ ≠ (.slice Ao18 t119.length co18 : Value).ownBlock ∧ some k_ ≠ (.slice Ao15 t110.length co15 : Value).ownBlock ∧ some k_ ≠ (.slice Ao16 t113.length co16 : Value).ownBlock ∧ some k_ ≠ (.slice Ao21 t122.length co21 : Value).ownBlock ∧ some k_ ≠ (.slice Ao25 t128.length co25 : Value).ownBlock ∧ some k_ ≠ (.slice Ao26 t131.length co26 : Value).ownBlock ∧ some k_ ≠ (.slice Ao44 t138.length co44 : Value).ownBlock) (Kd.R_keptB (HO_119000.out) hkp (fun k_ hk_ hs_ => (hk_.1.1) hs_)) (fun k_ hk_ => ⟨hk_.1.1.1, hk_.1.1.2.1, hk_.1.1.2.2.1, hk_.1.1.2.2.2.1, hk_.1.1.2.2.2.2.1, hk_.1.1.2.2.2.2.2, hk_.1.2⟩)); have n2_ := sA (Kd.S_mono (ok' := fun k_ => some k_ ≠ (.slice Ao18 t119.length co18 : Value).ownBlock ∧ some k_ ≠ (.slice Ao12 t104.length co12 : Value).ownBlock ∧ some k_ ≠ (.slice Ao15 t110.length co15 : Value).ownBlock ∧ some k_ ≠ (.slice Ao16 t113.length co16 : Value).ownBlock ∧ some k_ ≠ (.slice Ao21 t122.length co21 : Value).ownBlock ∧ some k_ ≠ (.slice Ao24 t125.length co24 : Value).ownBlock ∧ some k_ ≠ (.slice Ao25 t128.length co25 : Value).ownBlock ∧ some k_ ≠ (.slice Ao26 t131.length co26 : Value).ownBlock ∧ some k_ ≠ (.slice Ao44 t138.length co44 : Value).ownBlock) (Kd.S_keptB (HO_119001.out) hkp (fun k_ hk_ hs_ => (hk_.1.1) hs_)) (fun k_ hk_ => ⟨hk_.1.1.1, hk_.1.1.2.1, hk_.1.1.2.2.1, hk_.1.1.2.2.2.1, hk_.1.1.2.2.2.2.1, hk_.1.1.2.2.2.2.2.1, hk_.1.1.2.2.2.2.2.2.1, hk_.1.1.2.2.2.2.2.2.2, hk_.1.2⟩)); have n3_ := sA (Kd.R_mono (ok' := fun k_ => some k_ ≠ (.slice Ao18 t119.length co18 : Value).ownBlock ∧ some k_ ≠ (.slice Ao12 t104.length co12 : Value).ownBlock ∧ some k_ ≠ (.slice Ao16 t113.length co16 : Value).ownBlock ∧ some k_ ≠ (.slice Ao21 t122.length co21 : Value).ownBlock ∧ some k_ ≠ (.slice Ao25 t128.length co25 : Value).ownBlock ∧ some k_ ≠ (.slice Ao26 t131.length co26 : Value).ownBlock ∧ some k_ ≠ (.slice Ao44 t138.length co44 : Value).ownBlock) (Kd.R_keptB (HO_119002.out) hkp (fun k_ hk_ hs_ => (hk_.1.1) hs_)) (fun k_ hk_ => ⟨hk_.1.1.1, hk_.1.1.2.1, hk_.1.1.2.2.1, hk_.1.1.2.2.2.1, hk_.1.1.2.2.2.2.1, hk_.1.1.2.2.2.2.2, hk_.1.2⟩)); have n4_ := sA (Kd.R_mono (ok' := fun k_ => some k_ ≠ (.slice Ao18 t119.length co18 : Value).ownBlock ∧ some k_ ≠ (.slice Ao12 t104.length co12 : Value).ownBlock ∧ some k_ ≠ (.slice Ao15 t110.length co15 : Value).ownBlock ∧ some k_ ≠ (.slice Ao21 t122.length co21 : Value).ownBlock ∧ some k_ ≠ (.slice Ao25 t128.length co25 : Value).ownBlock ∧ some k_ ≠ (.slice Ao26 t131.length co26 : Value).ownBlock ∧ some k_ ≠ (.slice Ao44 t138.length co44 : Value).ownBlock) (Kd.R_keptB (HO_119003.out) hkp (fun k_ hk_ hs_ => (hk_.1.1) hs_)) (fun k_ hk_ => ⟨hk_.1.1.1, hk_.1.1.2.1, hk_.1.1.2.2.1, hk_.1.1.2.2.2.1, hk_.1.1.2.2.2.2.1, hk_.1.1.2.2.2.2.2, hk_.1.2⟩)); have n5_ := sA (Kd.R_mono (ok' := fun k_ => some k_ ≠ (.slice Ao18 t119.length co18 : Value).ownBlock ∧ some k_ ≠ (.slice Ao12 t104.length co12 : Value).ownBlock ∧ some k_ ≠ (.slice Ao15 t110.length co15 : Value).ownBlock ∧ some k_ ≠ (.slice Ao16 t113.length co16 : Value).ownBlock ∧ some k_ ≠ (.slice Ao25 t128.length co25 : Value).ownBlock ∧ some k_ ≠ (.slice Ao26 t131.length co26 : Value).ownBlock ∧ some k_ ≠ (.slice Ao44 t138.length co44 : Value).ownBlock) (Kd.R_keptB (HO_137000.out) hkp (fun k_ hk_ hs_ => (hk_.1.1) hs_)) (fun k_ hk_ => ⟨hk_.1.1.1, hk_.1.1.2.1, hk_.1.1.2.2.1, hk_.1.1.2.2.2.1, hk_.1.1.2.2.2.2.1, hk_.1.1.2.2.2.2.2, hk_.1.2⟩)); have n6_ := sA (Kd.S_mono (ok' := fun k_ => some k_ ≠ (.slice Ao18 t119.length co18 : Value).ownBlock ∧ some k_ ≠ (.slice Ao12 t104.length co12 : Value).ownBlock ∧ some k_ ≠ (.slice Ao14 t107.length co14 : Value).ownBlock ∧ some k_ ≠ (.slice Ao15 t110.length co15 : Value).ownBlock ∧ some k_ ≠ (.slice Ao16 t113.length co16 : Value).ownBlock ∧ some k_ ≠ (.slice Ao21 t122.length co21 : Value).ownBlock ∧ some k_ ≠ (.slice Ao25 t128.length co25 : Value).ownBlock ∧ some k_ ≠ (.slice Ao26 t131.length co26 : Value).ownBlock ∧ some k_ ≠ (.slice Ao44 t138.length co44 : Value).ownBlock) (Kd.S_keptB (HO_137001.out) hkp (fun k_ hk_ hs_ => (hk_.1.1) hs_)) (fun k_ hk_ => ⟨hk_.1.1.1, hk_.1.1.2.1, hk_.1.1.2.2.1, hk_.1.1.2.2.2.1, hk_.1.1.2.2.2.2.1, hk_.1.1.2.2.2.2.2.1, hk_.1.1.2.2.2.2.2.2.1, hk_.1.1.2.2.2.2.2.2.2, hk_.1.2⟩)); have n7_ := sA (Kd.R_mono (ok' := fun k_ => some k_ ≠ (.slice Ao18 t119.length co18 : Value).ownBlock ∧ some k_ ≠ (.slice Ao12 t104.length co12 : Value).ownBlock ∧ some k_ ≠ (.slice Ao15 t110.length co15 : Value).ownBlock ∧ some k_ ≠ (.slice Ao16 t113.length co16 : Value).ownBlock ∧ some k_ ≠ (.slice Ao21 t122.length co21 : Value).ownBlock ∧ some k_ ≠ (.slice Ao26 t131.length co26 : Value).ownBlock ∧ some k_ ≠ (.slice Ao44 t138.length co44 : Value).ownBlock) (Kd.R_keptB (HO_137002.out) hkp (fun k_ hk_ hs_ => (hk_.1.1) hs_)) (fun k_ hk_ => ⟨hk_.1.1.1, hk_.1.1.2.1, hk_.1.1.2.2.1, hk_.1.1.2.2.2.1, hk_.1.1.2.2.2.2.1, hk_.1.1.2.2.2.2.2, hk_.1.2⟩)); have n8_ := sA (Kd.R_mono (ok' := fun k_ => some k_ ≠ (.slice Ao18 t119.length co18 : Value).ownBlock ∧ some k_ ≠ (.slice Ao12 t104.length co12 : Value).ownBlock ∧ some k_ ≠ (.slice Ao15 t110.length co15 : Value).ownBlock ∧ some k_ ≠ (.slice Ao16 t113.length co16 : Value).ownBlock ∧ some k_ ≠ (.slice Ao21 t122.length co21 : Value).ownBlock ∧ some k_ ≠ (.slice Ao25 t128.length co25 : Value).ownBlock ∧ some k_ ≠ (.slice Ao44 t138.length co44 : Value).ownBlock) (Kd.R_keptB (HO_137003.out) hkp (fun k_ hk_ hs_ => (hk_.1.1) hs_)) (fun k_ hk_ => ⟨hk_.1.1.1, hk_.1.1.2.1, hk_.1.1.2.2.1, hk_.1.1.2.2.2.1, hk_.1.1.2.2.2.2.1, hk_.1.1.2.2.2.2.2, hk_.1.2⟩)); have n9_ := sA (blk_kept (sB BK118.out) hkp (fun hs_ => (fun e_ => (Kd.R_ne HO_5.out BK118.out (by decide)) e_) hs_)); have n10_ := sA (blk_kept (sB BK136.out) hkp (fun hs_ => (fun e_ => (Kd.R_ne HO_5.out BK136.out (by decide)) e_) hs_)); have n11_ := sA (Kd.R_mono (ok' := fun k_ => some k_ ≠ (.slice Ao18 t119.length co18 : Value).ownBlock ∧ some k_ ≠ (.slice Ao12 t104.length co12 : Value).ownBlock ∧ some k_ ≠ (.slice Ao15 t110.length co15 : Value).ownBlock ∧ some k_ ≠ (.slice Ao16 t113.length co16 : Value).ownBlock ∧ some k_ ≠ (.slice Ao21 t122.length co21 : Value).ownBlock ∧ some k_ ≠ (.slice Ao25 t128.length co25 : Value).ownBlock ∧ some k_ ≠ (.slice Ao26 t131.length co26 : Value).ownBlock) (Kd.R_keptB (HO140.out) hkp (fun k_ hk_ hs_ => (hk_.1.1.1.1.1.1.2) hs_)) (fun k_ hk_ => ⟨hk_.1.1.1.1.1.1.1.2, hk_.1.1.1.1.1.1.2, hk_.1.1.1.1.1.2, hk_.1.1.1.1.2, hk_.1.1.1.2, hk_.1.1.2, hk_.1.2⟩)); have n12_ := sA (hb); clear HO_5; clear HO_119000; clear HO_119001; clear HO_119002; clear HO_119003; clear HO_137000; clear HO_137001; clear HO_137002; clear HO_137003; clear BK118; clear BK136; clear HO140; clear HB; have HO_5 := n0_; have HO_119000 := n1_; have HO_119001 := n2_; have HO_119002 := n3_; have HO_119003 := n4_; have HO_137000 := n5_; have HO_137001 := n6_; have HO_137002 := n7_; have HO_137003 := n8_; have BK118 := n9_; have BK136 := n10_; have HO140 := n11_; have HB := n12_; clear n0_ n1_ n2_ n3_ n4_ n5_ n6_ n7_ n8_ n9_ n10_ n11_ n12_; (try clear hb); (try clear hkp); (try clear hy0)))
      (try simp only [Act.put, sI, sZ, sV])
      go_cut [58] (fun v58 wc => ∃ (kq : Nat) (x58_41 : Bool), v58 = .bool x58_41 ∧ Aside0 (laws_FnExactNewTurns.j1 kq l0 t117 x58_41 t104 t107 t110 t113 t116 t122 t125 t128 t131 t134 = some r) ∧ Aside0 (kq ≤ kj6) ∧ Aside0 (Kd.R (Kd.int .i64) 3 wc w.heap.size (fun k_ => some k_ ≠ ((.slice Ao15 t110.length co15) : Value).ownBlock ∧ some k_ ≠ ((.slice Ao16 t113.length co16) : Value).ownBlock ∧ some k_ ≠ ((.slice Ao21 t122.length co21) : Value).ownBlock ∧ some k_ ≠ ((.slice Ao25 t128.length co25) : Value).ownBlock ∧ some k_ ≠ ((.slice Ao26 t131.length co26) : Value).ownBlock) (.slice Ao12 t104.length co12) t104) ∧ Aside0 (Kd.S (Kd.slice 3 (Kd.int .i64)) 22 wc w.heap.size (fun k_ => some k_ ≠ ((.slice Ao12 t104.length co12) : Value).ownBlock ∧ some k_ ≠ ((.slice Ao15 t110.length co15) : Value).ownBlock ∧ some k_ ≠ ((.slice Ao16 t113.length co16) : Value).ownBlock ∧ some k_ ≠ ((.slice Ao21 t122.length co21) : Value).ownBlock ∧ some k_ ≠ ((.slice Ao24 t125.length co24) : Value).ownBlock ∧ some k_ ≠ ((.slice Ao25 t128.length co25) : Value).ownBlock ∧ some k_ ≠ ((.slice Ao26 t131.length co26) : Value).ownBlock) (.slice Ao14 t107.length co14) t107) ∧ Aside0 (Kd.R (Kd.int .i64) 3 wc w.heap.size (fun k_ => some k_ ≠ ((.slice Ao12 t104.length co12) : Value).ownBlock ∧ some k_ ≠ ((.slice Ao16 t113.length co16) : Value).ownBlock ∧ some k_ ≠ ((.slice Ao21 t122.length co21) : Value).ownBlock ∧ some k_ ≠ ((.slice Ao25 t128.length co25) : Value).ownBlock ∧ some k_ ≠ ((.slice Ao26 t131.length co26) : Value).ownBlock) (.slice Ao15 t110.length co15) t110) ∧ Aside0 (Kd.R (Kd.int .i64) 3 wc w.heap.size (fun k_ => some k_ ≠ ((.slice Ao12 t104.length co12) : Value).ownBlock ∧ some k_ ≠ ((.slice Ao15 t110.length co15) : Value).ownBlock ∧ some k_ ≠ ((.slice Ao21 t122.length co21) : Value).ownBlock ∧ some k_ ≠ ((.slice Ao25 t128.length co25) : Value).ownBlock ∧ some k_ ≠ ((.slice Ao26 t131.length co26) : Value).ownBlock) (.slice Ao16 t113.length co16) t113) ∧ Aside0 (Kd.R (Kd.int .i64) 3 wc w.heap.size (fun k_ => some k_ ≠ ((.slice Ao12 t104.length co12) : Value).ownBlock ∧ some k_ ≠ ((.slice Ao15 t110.length co15) : Value).ownBlock ∧ some k_ ≠ ((.slice Ao16 t113.length co16) : Value).ownBlock ∧ some k_ ≠ ((.slice Ao25 t128.length co25) : Value).ownBlock ∧ some k_ ≠ ((.slice Ao26 t131.length co26) : Value).ownBlock) (.slice Ao21 t122.length co21) t122) ∧ Aside0 (Kd.S (Kd.slice 3 (Kd.int .i64)) 22 wc w.heap.size (fun k_ => some k_ ≠ ((.slice Ao12 t104.length co12) : Value).ownBlock ∧ some k_ ≠ ((.slice Ao14 t107.length co14) : Value).ownBlock ∧ some k_ ≠ ((.slice Ao15 t110.length co15) : Value).ownBlock ∧ some k_ ≠ ((.slice Ao16 t113.length co16) : Value).ownBlock ∧ some k_ ≠ ((.slice Ao21 t122.length co21) : Value).ownBlock ∧ some k_ ≠ ((.slice Ao25 t128.length co25) : Value).ownBlock ∧ some k_ ≠ ((.slice Ao26 t131.length co26) : Value).ownBlock) (.slice Ao24 t125.length co24) t125) ∧ Aside0 (Kd.R (Kd.int .i64) 3 wc w.heap.size (fun k_ => some k_ ≠ ((.slice Ao12 t104.length co12) : Value).ownBlock ∧ some k_ ≠ ((.slice Ao15 t110.length co15) : Value).ownBlock ∧ some k_ ≠ ((.slice Ao16 t113.length co16) : Value).ownBlock ∧ some k_ ≠ ((.slice Ao21 t122.length co21) : Value).ownBlock ∧ some k_ ≠ ((.slice Ao26 t131.length co26) : Value).ownBlock) (.slice Ao25 t128.length co25) t128) ∧ Aside0 (Kd.R (Kd.int .i64) 3 wc w.heap.size (fun k_ => some k_ ≠ ((.slice Ao12 t104.length co12) : Value).ownBlock ∧ some k_ ≠ ((.slice Ao15 t110.length co15) : Value).ownBlock ∧ some k_ ≠ ((.slice Ao16 t113.length co16) : Value).ownBlock ∧ some k_ ≠ ((.slice Ao21 t122.length co21) : Value).ownBlock ∧ some k_ ≠ ((.slice Ao25 t128.length co25) : Value).ownBlock) (.slice Ao26 t131.length co26) t131) ∧ Aside0 (wc.heap[gb118]? = some (.cells #[(.slice Ao12 t104.length co12), (.slice Ao14 t107.length co14), (.slice Ao15 t110.length co15), (.slice Ao16 t113.length co16), .int .i64 t116] 25 (0, 0))) ∧ Aside0 (wc.heap[gb136]? = some (.cells #[(.slice Ao21 t122.length co21), (.slice Ao24 t125.length co24), (.slice Ao25 t128.length co25), (.slice Ao26 t131.length co26), .int .i64 t134] 25 (0, 0))) ∧ Aside0 (Below w.heap.size w wc))
      case first =>
       have H := HC42.out
       clear HC42
       by_cases c46 : t142 < 0
       ·rw [if_pos c46] at H
        have c46b0 : decide (t142 < 0) = true := decide_eq_true c46
        clear c46
        (first | rw [c46b0] | (simp only [i64_w, i32_w]; rw [c46b0]) | skip)
        have H' := sA H
        clear H
        go_wp2
        go_meet
        case rel => exact ⟨_, (true), (by first | rfl | (simp; done) | (simp [*]; done)), H', ⟨by have := HJ6.out; first | omega | exact Nat.le_refl _⟩, ⟨sR (Kd.R_mono HO_119000.out (fun _ hk => ⟨hk.2.1, ⟨hk.2.2.1, ⟨hk.2.2.2.1, ⟨hk.2.2.2.2.1, hk.2.2.2.2.2.1⟩⟩⟩⟩))⟩, ⟨by (with_reducible repeat (first | apply Kd.S_alloc | apply Kd.S_drewN | apply Kd.S_drew)); exact Kd.S_mono HO_119001.out (fun _ hk => ⟨hk.2.1, ⟨hk.2.2.1, ⟨hk.2.2.2.1, ⟨hk.2.2.2.2.1, ⟨hk.2.2.2.2.2.1, ⟨hk.2.2.2.2.2.2.1, hk.2.2.2.2.2.2.2.1⟩⟩⟩⟩⟩⟩)⟩, ⟨sR (Kd.R_mono HO_119002.out (fun _ hk => ⟨hk.2.1, ⟨hk.2.2.1, ⟨hk.2.2.2.1, ⟨hk.2.2.2.2.1, hk.2.2.2.2.2.1⟩⟩⟩⟩))⟩, ⟨sR (Kd.R_mono HO_119003.out (fun _ hk => ⟨hk.2.1, ⟨hk.2.2.1, ⟨hk.2.2.2.1, ⟨hk.2.2.2.2.1, hk.2.2.2.2.2.1⟩⟩⟩⟩))⟩, ⟨sR (Kd.R_mono HO_137000.out (fun _ hk => ⟨hk.2.1, ⟨hk.2.2.1, ⟨hk.2.2.2.1, ⟨hk.2.2.2.2.1, hk.2.2.2.2.2.1⟩⟩⟩⟩))⟩, ⟨by (with_reducible repeat (first | apply Kd.S_alloc | apply Kd.S_drewN | apply Kd.S_drew)); exact Kd.S_mono HO_137001.out (fun _ hk => ⟨hk.2.1, ⟨hk.2.2.1, ⟨hk.2.2.2.1, ⟨hk.2.2.2.2.1, ⟨hk.2.2.2.2.2.1, ⟨hk.2.2.2.2.2.2.1, hk.2.2.2.2.2.2.2.1⟩⟩⟩⟩⟩⟩)⟩, ⟨sR (Kd.R_mono HO_137002.out (fun _ hk => ⟨hk.2.1, ⟨hk.2.2.1, ⟨hk.2.2.2.1, ⟨hk.2.2.2.2.1, hk.2.2.2.2.2.1⟩⟩⟩⟩))⟩, ⟨sR (Kd.R_mono HO_137003.out (fun _ hk => ⟨hk.2.1, ⟨hk.2.2.1, ⟨hk.2.2.2.1, ⟨hk.2.2.2.2.1, hk.2.2.2.2.2.1⟩⟩⟩⟩))⟩, ⟨sB BK118.out⟩, ⟨sB BK136.out⟩, ⟨by repeat (first | (with_reducible first | exact HB.out | apply sLA | apply sLN | apply sLD | refine sLS ?_ GE118.out | refine sLS ?_ GE136.out) | exact HB.out)⟩⟩
       ·rw [if_neg c46] at H
        have c46b0 : decide (t142 < 0) = false := decide_eq_false c46
        clear c46
        (first | rw [c46b0] | (simp only [i64_w, i32_w]; rw [c46b0]) | skip)
        replace H := Option.bind_eq_some_iff.mp H
        obtain ⟨t144, A470, H⟩ := H
        replace H : (if t144 = true then (laws_FnExactNewTurns.j1 kj6 l0 t117 (t135 != t117) t104 t107 t110 t113 t116 t122 t125 t128 t131 t134) else (laws_FnExactNewTurns.j1 kj6 l0 t117 true t104 t107 t110 t113 t116 t122 t125 t128 t131 t134)) = some r := H
        have A47 := sA A470
        clear A470
        by_cases c48 : t144 = true
        ·subst c48
         have H1 : (laws_FnExactNewTurns.j1 kj6 l0 t117 (t135 != t117) t104 t107 t110 t113 t116 t122 t125 t128 t131 t134) = some r := by rw [if_pos rfl] at H; exact H
         clear H
         have H := H1
         clear H1
         have H' := sA H
         clear H
         have hnb49 := NB136_118.out
         have hnc49 := NB118_136.out
         have hcz50_0 : w45.cell? ⟨gb136, 0, none⟩ = some (.slice Ao21 t122.length co21) := sC BK136 0 rfl
         have hcz50_1 : w45.cell? ⟨gb136, 1, none⟩ = some (.slice Ao24 t125.length co24) := sC BK136 1 rfl
         have hcz50_2 : w45.cell? ⟨gb136, 2, none⟩ = some (.slice Ao25 t128.length co25) := sC BK136 2 rfl
         have hcz50_3 : w45.cell? ⟨gb136, 3, none⟩ = some (.slice Ao26 t131.length co26) := sC BK136 3 rfl
         have hcz50_4 : w45.cell? ⟨gb136, 4, none⟩ = some (.int .i64 t134) := sC BK136 4 rfl
         have hfz50_0 := blk_frozen BK136.out 0
         have hfz50_1 := blk_frozen BK136.out 1
         have hfz50_2 := blk_frozen BK136.out 2
         have hfz50_3 := blk_frozen BK136.out 3
         have hfz50_4 := blk_frozen BK136.out 4
         have hcz51_0 : w45.cell? ⟨gb118, 0, none⟩ = some (.slice Ao12 t104.length co12) := sC BK118 0 rfl
         have hcz51_1 : w45.cell? ⟨gb118, 1, none⟩ = some (.slice Ao14 t107.length co14) := sC BK118 1 rfl
         have hcz51_2 : w45.cell? ⟨gb118, 2, none⟩ = some (.slice Ao15 t110.length co15) := sC BK118 2 rfl
         have hcz51_3 : w45.cell? ⟨gb118, 3, none⟩ = some (.slice Ao16 t113.length co16) := sC BK118 3 rfl
         have hcz51_4 : w45.cell? ⟨gb118, 4, none⟩ = some (.int .i64 t116) := sC BK118 4 rfl
         have hfz51_0 := blk_frozen BK118.out 0
         have hfz51_1 := blk_frozen BK118.out 1
         have hfz51_2 := blk_frozen BK118.out 2
         have hfz51_3 := blk_frozen BK118.out 3
         have hfz51_4 := blk_frozen BK118.out 4
         go_wp2_with (first | (go_at_call 8; (with_reducible refine (laws_eqTurns.calls kj6 _ _ t122 _ _ t125 _ _ t128 _ _ t131 t134 _ _ t104 _ _ t107 _ _ t110 _ _ t113 t116 true _ ?side1 ?side2 ?side3 ?side4 ?side5 ?side6 ?side7 ?side8 ?side9 ?side10 ?side11 ?side12 ?side13 ?side14 ?side15 ?side16 A47.out).mono ?_); (case side1 => repeat (first | exact (Kd.R_reads' HO_137000.out).2.2 | (with_reducible refine Kd.C_alloc ?_ _) | (with_reducible refine Kd.C_drewN ?_ _) | (with_reducible refine Kd.C_drew ?_))); (case side2 => exact (Kd.R_reads' HO_137000.out).2.1); (case side3 => repeat (first | exact (Kd.S_reads' HO_137001.out).2.2 | (with_reducible refine Kd.C_alloc ?_ _) | (with_reducible refine Kd.C_drewN ?_ _) | (with_reducible refine Kd.C_drew ?_))); (case side4 => exact (Kd.S_reads' HO_137001.out).2.1); (case side5 => repeat (first | exact (Kd.R_reads' HO_137002.out).2.2 | (with_reducible refine Kd.C_alloc ?_ _) | (with_reducible refine Kd.C_drewN ?_ _) | (with_reducible refine Kd.C_drew ?_))); (case side6 => exact (Kd.R_reads' HO_137002.out).2.1); (case side7 => repeat (first | exact (Kd.R_reads' HO_137003.out).2.2 | (with_reducible refine Kd.C_alloc ?_ _) | (with_reducible refine Kd.C_drewN ?_ _) | (with_reducible refine Kd.C_drew ?_))); (case side8 => exact (Kd.R_reads' HO_137003.out).2.1); (case side9 => repeat (first | exact (Kd.R_reads' HO_119000.out).2.2 | (with_reducible refine Kd.C_alloc ?_ _) | (with_reducible refine Kd.C_drewN ?_ _) | (with_reducible refine Kd.C_drew ?_))); (case side10 => exact (Kd.R_reads' HO_119000.out).2.1); (case side11 => repeat (first | exact (Kd.S_reads' HO_119001.out).2.2 | (with_reducible refine Kd.C_alloc ?_ _) | (with_reducible refine Kd.C_drewN ?_ _) | (with_reducible refine Kd.C_drew ?_))); (case side12 => exact (Kd.S_reads' HO_119001.out).2.1); (case side13 => repeat (first | exact (Kd.R_reads' HO_119002.out).2.2 | (with_reducible refine Kd.C_alloc ?_ _) | (with_reducible refine Kd.C_drewN ?_ _) | (with_reducible refine Kd.C_drew ?_))); (case side14 => exact (Kd.R_reads' HO_119002.out).2.1); (case side15 => repeat (first | exact (Kd.R_reads' HO_119003.out).2.2 | (with_reducible refine Kd.C_alloc ?_ _) | (with_reducible refine Kd.C_drewN ?_ _) | (with_reducible refine Kd.C_drew ?_))); (case side16 => exact (Kd.R_reads' HO_119003.out).2.1); rintro e w52 ⟨rfl, hb⟩; have n0_ := sA (Kd.R_below (sR HO_5.out) hb); have n1_ := sA (Kd.R_below (sR HO_119000.out) hb); have n2_ := sA (Kd.S_below (by (with_reducible repeat (first | apply Kd.S_alloc | apply Kd.S_drewN | apply Kd.S_drew)); exact HO_119001.out) hb); have n3_ := sA (Kd.R_below (sR HO_119002.out) hb); have n4_ := sA (Kd.R_below (sR HO_119003.out) hb); have n5_ := sA (Kd.R_below (sR HO_137000.out) hb); have n6_ := sA (Kd.S_below (by (with_reducible repeat (first | apply Kd.S_alloc | apply Kd.S_drewN | apply Kd.S_drew)); exact HO_137001.out) hb); have n7_ := sA (Kd.R_below (sR HO_137002.out) hb); have n8_ := sA (Kd.R_below (sR HO_137003.out) hb); have n9_ := sA (Kd.R_below (sR HO140.out) hb); have n10_ := sA (blk_below (sB BK118.out) hb); have n11_ := sA (blk_below (sB BK136.out) hb); have n12_ := sA (below_step (by repeat (first | (with_reducible first | exact HB.out | apply sLA | apply sLN | apply sLD | refine sLS ?_ (Aside0.out (by assumption))) | exact HB.out)) hb); clear HO_5; clear HO_119000; clear HO_119001; clear HO_119002; clear HO_119003; clear HO_137000; clear HO_137001; clear HO_137002; clear HO_137003; clear HO140; clear BK118; clear BK136; clear HB; have HO_5 := n0_; have HO_119000 := n1_; have HO_119001 := n2_; have HO_119002 := n3_; have HO_119003 := n4_; have HO_137000 := n5_; have HO_137001 := n6_; have HO_137002 := n7_; have HO_137003 := n8_; have HO140 := n9_; have BK118 := n10_; have BK136 := n11_; have HB := n12_; clear n0_ n1_ n2_ n3_ n4_ n5_ n6_ n7_ n8_ n9_ n10_ n11_ n12_; (try clear hb); (try clear hb2); (try clear hk); (try clear hi)))
         go_meet
         case rel => exact ⟨_, ((t135 != t117)), (by first | rfl | (simp; done) | (simp [*]; done)), H', ⟨by have := HJ6.out; first | omega | exact Nat.le_refl _⟩, ⟨sR (Kd.R_mono HO_119000.out (fun _ hk => ⟨hk.2.1, ⟨hk.2.2.1, ⟨hk.2.2.2.1, ⟨hk.2.2.2.2.1, hk.2.2.2.2.2.1⟩⟩⟩⟩))⟩, ⟨by (with_reducible repeat (first | apply Kd.S_alloc | apply Kd.S_drewN | apply Kd.S_drew)); exact Kd.S_mono HO_119001.out (fun _ hk => ⟨hk.2.1, ⟨hk.2.2.1, ⟨hk.2.2.2.1, ⟨hk.2.2.2.2.1, ⟨hk.2.2.2.2.2.1, ⟨hk.2.2.2.2.2.2.1, hk.2.2.2.2.2.2.2.1⟩⟩⟩⟩⟩⟩)⟩, ⟨sR (Kd.R_mono HO_119002.out (fun _ hk => ⟨hk.2.1, ⟨hk.2.2.1, ⟨hk.2.2.2.1, ⟨hk.2.2.2.2.1, hk.2.2.2.2.2.1⟩⟩⟩⟩))⟩, ⟨sR (Kd.R_mono HO_119003.out (fun _ hk => ⟨hk.2.1, ⟨hk.2.2.1, ⟨hk.2.2.2.1, ⟨hk.2.2.2.2.1, hk.2.2.2.2.2.1⟩⟩⟩⟩))⟩, ⟨sR (Kd.R_mono HO_137000.out (fun _ hk => ⟨hk.2.1, ⟨hk.2.2.1, ⟨hk.2.2.2.1, ⟨hk.2.2.2.2.1, hk.2.2.2.2.2.1⟩⟩⟩⟩))⟩, ⟨by (with_reducible repeat (first | apply Kd.S_alloc | apply Kd.S_drewN | apply Kd.S_drew)); exact Kd.S_mono HO_137001.out (fun _ hk => ⟨hk.2.1, ⟨hk.2.2.1, ⟨hk.2.2.2.1, ⟨hk.2.2.2.2.1, ⟨hk.2.2.2.2.2.1, ⟨hk.2.2.2.2.2.2.1, hk.2.2.2.2.2.2.2.1⟩⟩⟩⟩⟩⟩)⟩, ⟨sR (Kd.R_mono HO_137002.out (fun _ hk => ⟨hk.2.1, ⟨hk.2.2.1, ⟨hk.2.2.2.1, ⟨hk.2.2.2.2.1, hk.2.2.2.2.2.1⟩⟩⟩⟩))⟩, ⟨sR (Kd.R_mono HO_137003.out (fun _ hk => ⟨hk.2.1, ⟨hk.2.2.1, ⟨hk.2.2.2.1, ⟨hk.2.2.2.2.1, hk.2.2.2.2.2.1⟩⟩⟩⟩))⟩, ⟨sB BK118.out⟩, ⟨sB BK136.out⟩, ⟨by repeat (first | (with_reducible first | exact HB.out | apply sLA | apply sLN | apply sLD | refine sLS ?_ GE118.out | refine sLS ?_ GE136.out) | exact HB.out)⟩⟩
        ·replace c48 := Bool.eq_false_iff.mpr c48
         subst c48
         have H1 : (laws_FnExactNewTurns.j1 kj6 l0 t117 true t104 t107 t110 t113 t116 t122 t125 t128 t131 t134) = some r := by rw [if_neg (show ¬ (false = true) by decide)] at H; exact H
         clear H
         have H := H1
         clear H1
         have H' := sA H
         clear H
         have hnb53 := NB136_118.out
         have hnc53 := NB118_136.out
         have hcz54_0 : w45.cell? ⟨gb136, 0, none⟩ = some (.slice Ao21 t122.length co21) := sC BK136 0 rfl
         have hcz54_1 : w45.cell? ⟨gb136, 1, none⟩ = some (.slice Ao24 t125.length co24) := sC BK136 1 rfl
         have hcz54_2 : w45.cell? ⟨gb136, 2, none⟩ = some (.slice Ao25 t128.length co25) := sC BK136 2 rfl
         have hcz54_3 : w45.cell? ⟨gb136, 3, none⟩ = some (.slice Ao26 t131.length co26) := sC BK136 3 rfl
         have hcz54_4 : w45.cell? ⟨gb136, 4, none⟩ = some (.int .i64 t134) := sC BK136 4 rfl
         have hfz54_0 := blk_frozen BK136.out 0
         have hfz54_1 := blk_frozen BK136.out 1
         have hfz54_2 := blk_frozen BK136.out 2
         have hfz54_3 := blk_frozen BK136.out 3
         have hfz54_4 := blk_frozen BK136.out 4
         have hcz55_0 : w45.cell? ⟨gb118, 0, none⟩ = some (.slice Ao12 t104.length co12) := sC BK118 0 rfl
         have hcz55_1 : w45.cell? ⟨gb118, 1, none⟩ = some (.slice Ao14 t107.length co14) := sC BK118 1 rfl
         have hcz55_2 : w45.cell? ⟨gb118, 2, none⟩ = some (.slice Ao15 t110.length co15) := sC BK118 2 rfl
         have hcz55_3 : w45.cell? ⟨gb118, 3, none⟩ = some (.slice Ao16 t113.length co16) := sC BK118 3 rfl
         have hcz55_4 : w45.cell? ⟨gb118, 4, none⟩ = some (.int .i64 t116) := sC BK118 4 rfl
         have hfz55_0 := blk_frozen BK118.out 0
         have hfz55_1 := blk_frozen BK118.out 1
         have hfz55_2 := blk_frozen BK118.out 2
         have hfz55_3 := blk_frozen BK118.out 3
         have hfz55_4 := blk_frozen BK118.out 4
         go_wp2_with (first | (go_at_call 8; (with_reducible refine (laws_eqTurns.calls kj6 _ _ t122 _ _ t125 _ _ t128 _ _ t131 t134 _ _ t104 _ _ t107 _ _ t110 _ _ t113 t116 false _ ?side1 ?side2 ?side3 ?side4 ?side5 ?side6 ?side7 ?side8 ?side9 ?side10 ?side11 ?side12 ?side13 ?side14 ?side15 ?side16 A47.out).mono ?_); (case side1 => repeat (first | exact (Kd.R_reads' HO_137000.out).2.2 | (with_reducible refine Kd.C_alloc ?_ _) | (with_reducible refine Kd.C_drewN ?_ _) | (with_reducible refine Kd.C_drew ?_))); (case side2 => exact (Kd.R_reads' HO_137000.out).2.1); (case side3 => repeat (first | exact (Kd.S_reads' HO_137001.out).2.2 | (with_reducible refine Kd.C_alloc ?_ _) | (with_reducible refine Kd.C_drewN ?_ _) | (with_reducible refine Kd.C_drew ?_))); (case side4 => exact (Kd.S_reads' HO_137001.out).2.1); (case side5 => repeat (first | exact (Kd.R_reads' HO_137002.out).2.2 | (with_reducible refine Kd.C_alloc ?_ _) | (with_reducible refine Kd.C_drewN ?_ _) | (with_reducible refine Kd.C_drew ?_))); (case side6 => exact (Kd.R_reads' HO_137002.out).2.1); (case side7 => repeat (first | exact (Kd.R_reads' HO_137003.out).2.2 | (with_reducible refine Kd.C_alloc ?_ _) | (with_reducible refine Kd.C_drewN ?_ _) | (with_reducible refine Kd.C_drew ?_))); (case side8 => exact (Kd.R_reads' HO_137003.out).2.1); (case side9 => repeat (first | exact (Kd.R_reads' HO_119000.out).2.2 | (with_reducible refine Kd.C_alloc ?_ _) | (with_reducible refine Kd.C_drewN ?_ _) | (with_reducible refine Kd.C_drew ?_))); (case side10 => exact (Kd.R_reads' HO_119000.out).2.1); (case side11 => repeat (first | exact (Kd.S_reads' HO_119001.out).2.2 | (with_reducible refine Kd.C_alloc ?_ _) | (with_reducible refine Kd.C_drewN ?_ _) | (with_reducible refine Kd.C_drew ?_))); (case side12 => exact (Kd.S_reads' HO_119001.out).2.1); (case side13 => repeat (first | exact (Kd.R_reads' HO_119002.out).2.2 | (with_reducible refine Kd.C_alloc ?_ _) | (with_reducible refine Kd.C_drewN ?_ _) | (with_reducible refine Kd.C_drew ?_))); (case side14 => exact (Kd.R_reads' HO_119002.out).2.1); (case side15 => repeat (first | exact (Kd.R_reads' HO_119003.out).2.2 | (with_reducible refine Kd.C_alloc ?_ _) | (with_reducible refine Kd.C_drewN ?_ _) | (with_reducible refine Kd.C_drew ?_))); (case side16 => exact (Kd.R_reads' HO_119003.out).2.1); rintro e w56 ⟨rfl, hb⟩; have n0_ := sA (Kd.R_below (sR HO_5.out) hb); have n1_ := sA (Kd.R_below (sR HO_119000.out) hb); have n2_ := sA (Kd.S_below (by (with_reducible repeat (first | apply Kd.S_alloc | apply Kd.S_drewN | apply Kd.S_drew)); exact HO_119001.out) hb); have n3_ := sA (Kd.R_below (sR HO_119002.out) hb); have n4_ := sA (Kd.R_below (sR HO_119003.out) hb); have n5_ := sA (Kd.R_below (sR HO_137000.out) hb); have n6_ := sA (Kd.S_below (by (with_reducible repeat (first | apply Kd.S_alloc | apply Kd.S_drewN | apply Kd.S_drew)); exact HO_137001.out) hb); have n7_ := sA (Kd.R_below (sR HO_137002.out) hb); have n8_ := sA (Kd.R_below (sR HO_137003.out) hb); have n9_ := sA (Kd.R_below (sR HO140.out) hb); have n10_ := sA (blk_below (sB BK118.out) hb); have n11_ := sA (blk_below (sB BK136.out) hb); have n12_ := sA (below_step (by repeat (first | (with_reducible first | exact HB.out | apply sLA | apply sLN | apply sLD | refine sLS ?_ (Aside0.out (by assumption))) | exact HB.out)) hb); clear HO_5; clear HO_119000; clear HO_119001; clear HO_119002; clear HO_119003; clear HO_137000; clear HO_137001; clear HO_137002; clear HO_137003; clear HO140; clear BK118; clear BK136; clear HB; have HO_5 := n0_; have HO_119000 := n1_; have HO_119001 := n2_; have HO_119002 := n3_; have HO_119003 := n4_; have HO_137000 := n5_; have HO_137001 := n6_; have HO_137002 := n7_; have HO_137003 := n8_; have HO140 := n9_; have BK118 := n10_; have BK136 := n11_; have HB := n12_; clear n0_ n1_ n2_ n3_ n4_ n5_ n6_ n7_ n8_ n9_ n10_ n11_ n12_; (try clear hb); (try clear hb2); (try clear hk); (try clear hi)))
         go_meet
         case rel => exact ⟨_, (true), (by first | rfl | (simp; done) | (simp [*]; done)), H', ⟨by have := HJ6.out; first | omega | exact Nat.le_refl _⟩, ⟨sR (Kd.R_mono HO_119000.out (fun _ hk => ⟨hk.2.1, ⟨hk.2.2.1, ⟨hk.2.2.2.1, ⟨hk.2.2.2.2.1, hk.2.2.2.2.2.1⟩⟩⟩⟩))⟩, ⟨by (with_reducible repeat (first | apply Kd.S_alloc | apply Kd.S_drewN | apply Kd.S_drew)); exact Kd.S_mono HO_119001.out (fun _ hk => ⟨hk.2.1, ⟨hk.2.2.1, ⟨hk.2.2.2.1, ⟨hk.2.2.2.2.1, ⟨hk.2.2.2.2.2.1, ⟨hk.2.2.2.2.2.2.1, hk.2.2.2.2.2.2.2.1⟩⟩⟩⟩⟩⟩)⟩, ⟨sR (Kd.R_mono HO_119002.out (fun _ hk => ⟨hk.2.1, ⟨hk.2.2.1, ⟨hk.2.2.2.1, ⟨hk.2.2.2.2.1, hk.2.2.2.2.2.1⟩⟩⟩⟩))⟩, ⟨sR (Kd.R_mono HO_119003.out (fun _ hk => ⟨hk.2.1, ⟨hk.2.2.1, ⟨hk.2.2.2.1, ⟨hk.2.2.2.2.1, hk.2.2.2.2.2.1⟩⟩⟩⟩))⟩, ⟨sR (Kd.R_mono HO_137000.out (fun _ hk => ⟨hk.2.1, ⟨hk.2.2.1, ⟨hk.2.2.2.1, ⟨hk.2.2.2.2.1, hk.2.2.2.2.2.1⟩⟩⟩⟩))⟩, ⟨by (with_reducible repeat (first | apply Kd.S_alloc | apply Kd.S_drewN | apply Kd.S_drew)); exact Kd.S_mono HO_137001.out (fun _ hk => ⟨hk.2.1, ⟨hk.2.2.1, ⟨hk.2.2.2.1, ⟨hk.2.2.2.2.1, ⟨hk.2.2.2.2.2.1, ⟨hk.2.2.2.2.2.2.1, hk.2.2.2.2.2.2.2.1⟩⟩⟩⟩⟩⟩)⟩, ⟨sR (Kd.R_mono HO_137002.out (fun _ hk => ⟨hk.2.1, ⟨hk.2.2.1, ⟨hk.2.2.2.1, ⟨hk.2.2.2.2.1, hk.2.2.2.2.2.1⟩⟩⟩⟩))⟩, ⟨sR (Kd.R_mono HO_137003.out (fun _ hk => ⟨hk.2.1, ⟨hk.2.2.1, ⟨hk.2.2.2.1, ⟨hk.2.2.2.2.1, hk.2.2.2.2.2.1⟩⟩⟩⟩))⟩, ⟨sB BK118.out⟩, ⟨sB BK136.out⟩, ⟨by repeat (first | (with_reducible first | exact HB.out | apply sLA | apply sLN | apply sLD | refine sLS ?_ GE118.out | refine sLS ?_ GE136.out) | exact HB.out)⟩⟩
      case rest =>
       clear HC42
       try clear c1
       try clear c2
       try clear c2b0
       try clear c2b1
       try clear p2
       try clear c3
       try clear c4
       try clear c5
       try clear c6
       try clear c7
       try clear c8
       try clear c9
       try clear c10
       try clear c22
       try clear c28
       try clear c29
       try clear c33
       try clear c37
       try clear c40
       try clear c46
       try clear c46b0
       try clear c48
       try clear c49
       try clear c53
       try clear hcz13_0
       try clear hcz13_1
       try clear hcz13_2
       try clear hcz13_3
       try clear hcz13_4
       try clear hcz23_0
       try clear hcz23_1
       try clear hcz23_2
       try clear hcz23_3
       try clear hcz23_4
       try clear hcz30_0
       try clear hcz30_1
       try clear hcz30_2
       try clear hcz30_3
       try clear hcz30_4
       try clear hcz31_0
       try clear hcz31_1
       try clear hcz31_2
       try clear hcz31_3
       try clear hcz31_4
       try clear hcz34_0
       try clear hcz34_1
       try clear hcz34_2
       try clear hcz34_3
       try clear hcz34_4
       try clear hcz35_0
       try clear hcz35_1
       try clear hcz35_2
       try clear hcz35_3
       try clear hcz35_4
       try clear hcz50_0
       try clear hcz50_1
       try clear hcz50_2
       try clear hcz50_3
       try clear hcz50_4
       try clear hcz51_0
       try clear hcz51_1
       try clear hcz51_2
       try clear hcz51_3
       try clear hcz51_4
       try clear hcz54_0
       try clear hcz54_1
       try clear hcz54_2
       try clear hcz54_3
       try clear hcz54_4
       try clear hcz55_0
       try clear hcz55_1
       try clear hcz55_2
       try clear hcz55_3
       try clear hcz55_4
       try clear hfz13_0
       try clear hfz13_1
       try clear hfz13_2
       try clear hfz13_3
       try clear hfz13_4
       try clear hfz23_0
       try clear hfz23_1
       try clear hfz23_2
       try clear hfz23_3
       try clear hfz23_4
       try clear hfz30_0
       try clear hfz30_1
       try clear hfz30_2
       try clear hfz30_3
       try clear hfz30_4
       try clear hfz31_0
       try clear hfz31_1
       try clear hfz31_2
       try clear hfz31_3
       try clear hfz31_4
       try clear hfz34_0
       try clear hfz34_1
       try clear hfz34_2
       try clear hfz34_3
       try clear hfz34_4
       try clear hfz35_0
       try clear hfz35_1
       try clear hfz35_2
       try clear hfz35_3
       try clear hfz35_4
       try clear hfz50_0
       try clear hfz50_1
       try clear hfz50_2
       try clear hfz50_3
       try clear hfz50_4
       try clear hfz51_0
       try clear hfz51_1
       try clear hfz51_2
       try clear hfz51_3
       try clear hfz51_4
       try clear hfz54_0
       try clear hfz54_1
       try clear hfz54_2
       try clear hfz54_3
       try clear hfz54_4
       try clear hfz55_0
       try clear hfz55_1
       try clear hfz55_2
       try clear hfz55_3
       try clear hfz55_4
       try clear p2
       obtain ⟨kq, x58_41, rfl, HA, HJ41, HO_119000, HO_119001, HO_119002, HO_119003, HO_137000, HO_137001, HO_137002, HO_137003, BK118, BK136, HB⟩ := hcut
       cases kq with
       | zero => exact absurd HA.out (by simp [laws_FnExactNewTurns.j1])
       | succ kj41 =>
        have H := HA.out
        clear HA
        simp only [laws_FnExactNewTurns.j1] at H
        by_cases c57 : x58_41 = true
        ·subst c57
         have H1 : (some false) = some r := by rw [if_pos rfl] at H; exact H
         clear H
         have H := H1
         clear H1
         exact absurd (hr_.symm.trans (Option.some.inj H).symm) (by decide)
        ·replace c57 := Bool.eq_false_iff.mpr c57
         subst c57
         have H1 : ((laws_markTurns.f kj41 t122 t125 t128 t131 t134 1).bind fun bt145 => ((laws_heldTurns.f kj41 bt145.2.1 t125 bt145.2.2.1 bt145.2.2.2 t134 1).bind fun t149 => (if t149 < 0 then (some false) else (if t149 = bt145.1 then ((laws_toIntS.f kj41 l0).bind fun t150 => ((impl_NewTurns.f t150).bind fun bt153 => ((laws_eqTurns.f kj41 bt153.1 bt153.2.1 bt153.2.2.1 bt153.2.2.2.1 bt153.2.2.2.2.1 t104 t107 t110 t113 t116).bind fun t168 => (if t168 = true then (laws_FnExactNewTurns.j2 kj41 bt145.1 (bt153.2.2.2.2.2 != t117) bt145.2.1 t125 bt145.2.2.1 bt145.2.2.2 t134) else (laws_FnExactNewTurns.j2 kj41 bt145.1 true bt145.2.1 t125 bt145.2.2.1 bt145.2.2.2 t134))))) else (some false))))) = some r := by rw [if_neg (show ¬ (false = true) by decide)] at H; exact H
         clear H
         have H := H1
         clear H1
         replace H := Option.bind_eq_some_iff.mp H
         obtain ⟨⟨t145, t146, t147, t148⟩, A580, H⟩ := H
         replace H : ((laws_heldTurns.f kj41 t146 t125 t147 t148 t134 1).bind fun t149 => (if t149 < 0 then (some false) else (if t149 = t145 then ((laws_toIntS.f kj41 l0).bind fun t150 => ((impl_NewTurns.f t150).bind fun bt153 => ((laws_eqTurns.f kj41 bt153.1 bt153.2.1 bt153.2.2.1 bt153.2.2.2.1 bt153.2.2.2.2.1 t104 t107 t110 t113 t116).bind fun t168 => (if t168 = true then (laws_FnExactNewTurns.j2 kj41 t145 (bt153.2.2.2.2.2 != t117) t146 t125 t147 t148 t134) else (laws_FnExactNewTurns.j2 kj41 t145 true t146 t125 t147 t148 t134))))) else (some false)))) = some r := H
         have A58 := sA A580
         clear A580
         replace H := Option.bind_eq_some_iff.mp H
         obtain ⟨t149, A590, H⟩ := H
         replace H : (if t149 < 0 then (some false) else (if t149 = t145 then ((laws_toIntS.f kj41 l0).bind fun t150 => ((impl_NewTurns.f t150).bind fun bt153 => ((laws_eqTurns.f kj41 bt153.1 bt153.2.1 bt153.2.2.1 bt153.2.2.2.1 bt153.2.2.2.2.1 t104 t107 t110 t113 t116).bind fun t168 => (if t168 = true then (laws_FnExactNewTurns.j2 kj41 t145 (bt153.2.2.2.2.2 != t117) t146 t125 t147 t148 t134) else (laws_FnExactNewTurns.j2 kj41 t145 true t146 t125 t147 t148 t134))))) else (some false))) = some r := H
         have A59 := sA A590
         clear A590
         by_cases c60 : t149 < 0
         ·rw [if_pos c60] at H
          have c60b0 : decide (t149 < 0) = true := decide_eq_true c60
          clear c60
          exact absurd (hr_.symm.trans (Option.some.inj H).symm) (by decide)
         ·rw [if_neg c60] at H
          have c60b0 : decide (t149 < 0) = false := decide_eq_false c60
          clear c60
          by_cases c66 : t149 = t145
          ·rw [if_pos c66] at H
           have c66b0 : (t149 == t145) = true := beq_iff_eq.mpr c66
           have c66b1 : (t149 != t145) = false := bne_eq_false_iff_eq.mpr c66
           clear c66
           replace H := Option.bind_eq_some_iff.mp H
           obtain ⟨t150, A670, H⟩ := H
           replace H : ((impl_NewTurns.f t150).bind fun bt153 => ((laws_eqTurns.f kj41 bt153.1 bt153.2.1 bt153.2.2.1 bt153.2.2.2.1 bt153.2.2.2.2.1 t104 t107 t110 t113 t116).bind fun t168 => (if t168 = true then (laws_FnExactNewTurns.j2 kj41 t145 (bt153.2.2.2.2.2 != t117) t146 t125 t147 t148 t134) else (laws_FnExactNewTurns.j2 kj41 t145 true t146 t125 t147 t148 t134)))) = some r := H
           have A67 := sA A670
           clear A670
           replace H := Option.bind_eq_some_iff.mp H
           obtain ⟨⟨t153, t156, t159, t162, t165, t166⟩, A680, H⟩ := H
           replace H : ((laws_eqTurns.f kj41 t153 t156 t159 t162 t165 t104 t107 t110 t113 t116).bind fun t168 => (if t168 = true then (laws_FnExactNewTurns.j2 kj41 t145 (t166 != t117) t146 t125 t147 t148 t134) else (laws_FnExactNewTurns.j2 kj41 t145 true t146 t125 t147 t148 t134))) = some r := H
           have A68 := sA A680
           clear A680
           have HC69 := sA H
           clear H
           have hnb70 := NB136_118.out
           have hnc70 := NB118_136.out
           have hcz71_0 : wc.cell? ⟨gb136, 0, none⟩ = some (.slice Ao21 t122.length co21) := sC BK136 0 rfl
           have hcz71_1 : wc.cell? ⟨gb136, 1, none⟩ = some (.slice Ao24 t125.length co24) := sC BK136 1 rfl
           have hcz71_2 : wc.cell? ⟨gb136, 2, none⟩ = some (.slice Ao25 t128.length co25) := sC BK136 2 rfl
           have hcz71_3 : wc.cell? ⟨gb136, 3, none⟩ = some (.slice Ao26 t131.length co26) := sC BK136 3 rfl
           have hcz71_4 : wc.cell? ⟨gb136, 4, none⟩ = some (.int .i64 t134) := sC BK136 4 rfl
           have hfz71_0 := blk_frozen BK136.out 0
           have hfz71_1 := blk_frozen BK136.out 1
           have hfz71_2 := blk_frozen BK136.out 2
           have hfz71_3 := blk_frozen BK136.out 3
           have hfz71_4 := blk_frozen BK136.out 4
           go_upto_region 23 with (first | ((with_reducible refine gate_callee (f := 11) rfl ?_); refine goesL_ (some 61) rfl rfl Try.func11 (by kernel_rfl) rfl #[.agg #[.slice Ao21 t122.length co21, .slice Ao24 t125.length co24, .slice Ao25 t128.length co25, .slice Ao26 t131.length co26, .int .i64 t134], .int .i64 1] rfl (by (try simp only [List.map_toArray, List.map_cons, List.map_nil]); first | done | rfl | (simp only [List.length_drop, List.length_take]; rfl)) ?_; (with_reducible refine (laws_markTurns.calls kj41 (fun k_ => some k_ = (.slice Ao21 t122.length co21 : Value).ownBlock) (.slice Ao21 t122.length co21) t122 _ _ t125 (fun k_ => some k_ = (.slice Ao25 t128.length co25 : Value).ownBlock) (.slice Ao25 t128.length co25) t128 (fun k_ => some k_ = (.slice Ao26 t131.length co26 : Value).ownBlock) (.slice Ao26 t131.length co26) t131 t134 1 t145 t146 t147 t148 w _ ?side1 ?side2 ?side3 ?side4 ?side5 ?side6 ?side7 ?side8 ?side9 ?side10 ?side11 ?side12 A58.out).mono ?_); (case side1 => repeat (first | (with_reducible first | exact HB.out | apply sLA | apply sLN | apply sLD | refine sLS ?_ GE118.out | refine sLS ?_ GE136.out) | exact HB.out)); (case side2 => exact Kd.R_tight rfl HO_137000.out); (case side3 => exact fun k_ e_ => (HO_137000.out.1 k_ e_.symm).2.2.2.1); (case side4 => exact fun k_ e_ => (HO_137000.out.1 k_ e_.symm).2.2.2.2); (case side5 => exact Kd.C_kept_own ((Kd.S_R HO_137001.out)) (fun k_ hk_ hs_ => Or.elim hs_ (fun e_ => (hk_.2.2.2.2.1) e_) (fun e_ => Or.elim e_ (fun e_ => (hk_.2.2.2.2.2.1) e_) (fun e_ => (hk_.2.2.2.2.2.2) e_)))); (case side6 => exact (Kd.S_reads' HO_137001.out).2.1); (case side7 => exact Kd.R_tight rfl HO_137002.out); (case side8 => exact fun k_ e_ => (HO_137002.out.1 k_ e_.symm).2.2.2.1); (case side9 => exact fun k_ e_ => (HO_137002.out.1 k_ e_.symm).2.2.2.2); (case side10 => exact Kd.R_tight rfl HO_137003.out); (case side11 => exact fun k_ e_ => (HO_137003.out.1 k_ e_.symm).2.2.2.1); (case side12 => exact fun k_ e_ => (HO_137003.out.1 k_ e_.symm).2.2.2.2); rintro e w72 ⟨rfl, hy0, hy1, hy2, hb, hkp⟩; refine ⟨_, rfl, ?_⟩; have n0_ := sA (Kd.R_mono (ok' := fun k_ => some k_ ≠ (.slice Ao15 t110.length co15 : Value).ownBlock ∧ some k_ ≠ (.slice Ao16 t113.length co16 : Value).ownBlock ∧ some k_ ≠ (.slice Ao21 t122.length co21 : Value).ownBlock ∧ some k_ ≠ (.slice Ao25 t128.length co25 : Value).ownBlock ∧ some k_ ≠ (.slice Ao26 t131.length co26 : Value).ownBlock) (Kd.R_keptB (HO_119000.out) hkp (fun k_ hk_ hs_ => Or.elim hs_ (fun e_ => (hk_.2.2.1) e_) (fun e_ => Or.elim e_ (fun e_ => (hk_.2.2.2.1) e_) (fun e_ => (hk_.2.2.2.2) e_)))) (fun k_ hk_ => ⟨hk_.1.1, hk_.1.2.1, hk_.1.2.2.1, hk_.1.2.2.2.1, hk_.1.2.2.2.2⟩)); have n1_ := sA (Kd.S_mono (ok' := fun k_ => some k_ ≠ (.slice Ao12 t104.length co12 : Value).ownBlock ∧ some k_ ≠ (.slice Ao15 t110.length co15 : Value).ownBlock ∧ some k_ ≠ (.slice Ao16 t113.length co16 : Value).ownBlock ∧ some k_ ≠ (.slice Ao21 t122.length co21 : Value).ownBlock ∧ some k_ ≠ (.slice Ao24 t125.length co24 : Value).ownBlock ∧ some k_ ≠ (.slice Ao25 t128.length co25 : Value).ownBlock ∧ some k_ ≠ (.slice Ao26 t131.length co26 : Value).ownBlock) (Kd.S_keptB (HO_119001.out) hkp (fun k_ hk_ hs_ => Or.elim hs_ (fun e_ => (hk_.2.2.2.1) e_) (fun e_ => Or.elim e_ (fun e_ => (hk_.2.2.2.2.2.1) e_) (fun e_ => (hk_.2.2.2.2.2.2) e_)))) (fun k_ hk_ => ⟨hk_.1.1, hk_.1.2.1, hk_.1.2.2.1, hk_.1.2.2.2.1, hk_.1.2.2.2.2.1, hk_.1.2.2.2.2.2.1, hk_.1.2.2.2.2.2.2⟩)); have n2_ := sA (Kd.R_mono (ok' := fun k_ => some k_ ≠ (.slice Ao12 t104.length co12 : Value).ownBlock ∧ some k_ ≠ (.slice Ao16 t113.length co16 : Value).ownBlock ∧ some k_ ≠ (.slice Ao21 t122.length co21 : Value).ownBlock ∧ some k_ ≠ (.slice Ao25 t128.length co25 : Value).ownBlock ∧ some k_ ≠ (.slice Ao26 t131.length co26 : Value).ownBlock) (Kd.R_keptB (HO_119002.out) hkp (fun k_ hk_ hs_ => Or.elim hs_ (fun e_ => (hk_.2.2.1) e_) (fun e_ => Or.elim e_ (fun e_ => (hk_.2.2.2.1) e_) (fun e_ => (hk_.2.2.2.2) e_)))) (fun k_ hk_ => ⟨hk_.1.1, hk_.1.2.1, hk_.1.2.2.1, hk_.1.2.2.2.1, hk_.1.2.2.2.2⟩)); have n3_ := sA (Kd.R_mono (ok' := fun k_ => some k_ ≠ (.slice Ao12 t104.length co12 : Value).ownBlock ∧ some k_ ≠ (.slice Ao15 t110.length co15 : Value).ownBlock ∧ some k_ ≠ (.slice Ao21 t122.length co21 : Value).ownBlock ∧ some k_ ≠ (.slice Ao25 t128.length co25 : Value).ownBlock ∧ some k_ ≠ (.slice Ao26 t131.length co26 : Value).ownBlock) (Kd.R_keptB (HO_119003.out) hkp (fun k_ hk_ hs_ => Or.elim hs_ (fun e_ => (hk_.2.2.1) e_) (fun e_ => Or.elim e_ (fun e_ => (hk_.2.2.2.1) e_) (fun e_ => (hk_.2.2.2.2) e_)))) (fun k_ hk_ => ⟨hk_.1.1, hk_.1.2.1, hk_.1.2.2.1, hk_.1.2.2.2.1, hk_.1.2.2.2.2⟩)); have n4_ := sA (Kd.R_reok rfl hy0 (fun k_ e_ => HO_137000.out.1 k_ e_)); have n5_ := sA (Kd.S_mono (ok' := fun k_ => some k_ ≠ (.slice Ao12 t104.length co12 : Value).ownBlock ∧ some k_ ≠ (.slice Ao14 t107.length co14 : Value).ownBlock ∧ some k_ ≠ (.slice Ao15 t110.length co15 : Value).ownBlock ∧ some k_ ≠ (.slice Ao16 t113.length co16 : Value).ownBlock ∧ some k_ ≠ (.slice Ao21 t122.length co21 : Value).ownBlock ∧ some k_ ≠ (.slice Ao25 t128.length co25 : Value).ownBlock ∧ some k_ ≠ (.slice Ao26 t131.length co26 : Value).ownBlock) (Kd.S_keptB (HO_137001.out) hkp (fun k_ hk_ hs_ => Or.elim hs_ (fun e_ => (hk_.2.2.2.2.1) e_) (fun e_ => Or.elim e_ (fun e_ => (hk_.2.2.2.2.2.1) e_) (fun e_ => (hk_.2.2.2.2.2.2) e_)))) (fun k_ hk_ => ⟨hk_.1.1, hk_.1.2.1, hk_.1.2.2.1, hk_.1.2.2.2.1, hk_.1.2.2.2.2.1, hk_.1.2.2.2.2.2.1, hk_.1.2.2.2.2.2.2⟩)); have n6_ := sA (Kd.R_reok rfl hy1 (fun k_ e_ => HO_137002.out.1 k_ e_)); have n7_ := sA (Kd.R_reok rfl hy2 (fun k_ e_ => HO_137003.out.1 k_ e_)); have n8_ := sA (blk_kept (sB BK118.out) hkp (fun hs_ => Or.elim hs_ (fun e_ => (fun e_ => (Kd.R_ne HO_137000.out BK118.out (by decide)) e_) e_) (fun e_ => Or.elim e_ (fun e_ => (fun e_ => (Kd.R_ne HO_137002.out BK118.out (by decide)) e_) e_) (fun e_ => (fun e_ => (Kd.R_ne HO_137003.out BK118.out (by decide)) e_) e_)))); have n9_ := sA (blk_kept (sB BK136.out) hkp (fun hs_ => Or.elim hs_ (fun e_ => (fun e_ => (Kd.R_ne HO_137000.out BK136.out (by decide)) e_) e_) (fun e_ => Or.elim e_ (fun e_ => (fun e_ => (Kd.R_ne HO_137002.out BK136.out (by decide)) e_) e_) (fun e_ => (fun e_ => (Kd.R_ne HO_137003.out BK136.out (by decide)) e_) e_)))); have n10_ := sA (hb); clear HO_119000; clear HO_119001; clear HO_119002; clear HO_119003; clear HO_137000; clear HO_137001; clear HO_137002; clear HO_137003; clear BK118; clear BK136; clear HB; have HO_119000 := n0_; have HO_119001 := n1_; have HO_119002 := n2_; have HO_119003 := n3_; have HO_137000 := n4_; have HO_137001 := n5_; have HO_137002 := n6_; have HO_137003 := n7_; have BK118 := n8_; have BK136 := n9_; have HB := n10_; clear n0_ n1_ n2_ n3_ n4_ n5_ n6_ n7_ n8_ n9_ n10_; (try clear hb); (try clear hkp); (try clear hy0); (try clear hy1); (try clear hy2); have hcz73_0 : w72.cell? ⟨gb136, 0, none⟩ = some (.slice Ao21 t122.length co21) := sC BK136 0 rfl; have hcz73_1 : w72.cell? ⟨gb136, 1, none⟩ = some (.slice Ao24 t125.length co24) := sC BK136 1 rfl; have hcz73_2 : w72.cell? ⟨gb136, 2, none⟩ = some (.slice Ao25 t128.length co25) := sC BK136 2 rfl; have hcz73_3 : w72.cell? ⟨gb136, 3, none⟩ = some (.slice Ao26 t131.length co26) := sC BK136 3 rfl; have hcz73_4 : w72.cell? ⟨gb136, 4, none⟩ = some (.int .i64 t134) := sC BK136 4 rfl; have hfz73_0 := blk_frozen BK136.out 0; have hfz73_1 := blk_frozen BK136.out 1; have hfz73_2 := blk_frozen BK136.out 2; have hfz73_3 := blk_frozen BK136.out 3; have hfz73_4 := blk_frozen BK136.out 4) | ((with_reducible refine gate_callee (f := 12) rfl ?_); refine goesL_ (some 64) rfl rfl Try.func12 (by kernel_rfl) rfl #[.agg #[.slice Ao21 t146.length co21, .slice Ao24 t125.length co24, .slice Ao25 t147.length co25, .slice Ao26 t148.length co26, .int .i64 t134], .int .i64 1] rfl (by (try simp only [List.map_toArray, List.map_cons, List.map_nil]); first | done | (rw [show t146.length = t122.length from (Kd.R_reads' HO_137000.out).1.symm, show t147.length = t128.length from (Kd.R_reads' HO_137002.out).1.symm, show t148.length = t131.length from (Kd.R_reads' HO_137003.out).1.symm] <;> rfl) | rfl | (simp only [List.length_drop, List.length_take]; rfl)) ?_; (with_reducible refine (laws_heldTurns.calls kj41 _ _ t146 _ _ t125 _ _ t147 _ _ t148 t134 1 t149 _ ?side1 ?side2 ?side3 ?side4 ?side5 ?side6 ?side7 ?side8 A59.out).mono ?_); (case side1 => repeat (first | exact (Kd.R_reads' HO_137000.out).2.2 | (with_reducible refine Kd.C_alloc ?_ _) | (with_reducible refine Kd.C_drewN ?_ _) | (with_reducible refine Kd.C_drew ?_))); (case side2 => rw [show t146.length = t122.length from (Kd.R_reads' HO_137000.out).1.symm]; exact (Kd.R_reads' HO_137000.out).2.1); (case side3 => repeat (first | exact (Kd.S_reads' HO_137001.out).2.2 | (with_reducible refine Kd.C_alloc ?_ _) | (with_reducible refine Kd.C_drewN ?_ _) | (with_reducible refine Kd.C_drew ?_))); (case side4 => exact (Kd.S_reads' HO_137001.out).2.1); (case side5 => repeat (first | exact (Kd.R_reads' HO_137002.out).2.2 | (with_reducible refine Kd.C_alloc ?_ _) | (with_reducible refine Kd.C_drewN ?_ _) | (with_reducible refine Kd.C_drew ?_))); (case side6 => rw [show t147.length = t128.length from (Kd.R_reads' HO_137002.out).1.symm]; exact (Kd.R_reads' HO_137002.out).2.1); (case side7 => repeat (first | exact (Kd.R_reads' HO_137003.out).2.2 | (with_reducible refine Kd.C_alloc ?_ _) | (with_reducible refine Kd.C_drewN ?_ _) | (with_reducible refine Kd.C_drew ?_))); (case side8 => rw [show t148.length = t131.length from (Kd.R_reads' HO_137003.out).1.symm]; exact (Kd.R_reads' HO_137003.out).2.1); rintro e w74 ⟨rfl, hb⟩; refine ⟨_, rfl, ?_⟩; have n0_ := sA (Kd.R_below (sR HO_119000.out) hb); have n1_ := sA (Kd.S_below (by (with_reducible repeat (first | apply Kd.S_alloc | apply Kd.S_drewN | apply Kd.S_drew)); exact HO_119001.out) hb); have n2_ := sA (Kd.R_below (sR HO_119002.out) hb); have n3_ := sA (Kd.R_below (sR HO_119003.out) hb); have n4_ := sA (Kd.R_below (sR HO_137000.out) hb); have n5_ := sA (Kd.S_below (by (with_reducible repeat (first | apply Kd.S_alloc | apply Kd.S_drewN | apply Kd.S_drew)); exact HO_137001.out) hb); have n6_ := sA (Kd.R_below (sR HO_137002.out) hb); have n7_ := sA (Kd.R_below (sR HO_137003.out) hb); have n8_ := sA (blk_below (sB BK118.out) hb); have n9_ := sA (blk_below (sB BK136.out) hb); have n10_ := sA (below_step (by repeat (first | (with_reducible first | exact HB.out | apply sLA | apply sLN | apply sLD | refine sLS ?_ (Aside0.out (by assumption))) | exact HB.out)) hb); clear HO_119000; clear HO_119001; clear HO_119002; clear HO_119003; clear HO_137000; clear HO_137001; clear HO_137002; clear HO_137003; clear BK118; clear BK136; clear HB; have HO_119000 := n0_; have HO_119001 := n1_; have HO_119002 := n2_; have HO_119003 := n3_; have HO_137000 := n4_; have HO_137001 := n5_; have HO_137002 := n6_; have HO_137003 := n7_; have BK118 := n8_; have BK136 := n9_; have HB := n10_; clear n0_ n1_ n2_ n3_ n4_ n5_ n6_ n7_ n8_ n9_ n10_; (try clear hb); (try clear hb2); (try clear hk); (try clear hi)) | ((with_reducible refine gate_callee (f := 6) rfl ?_); refine goesL_ (some 72) rfl rfl Try.func6 (by kernel_rfl) rfl #[.slice A0 l0.length c0] rfl (by (try simp only [List.map_toArray, List.map_cons, List.map_nil]); first | done | rfl | (simp only [List.length_drop, List.length_take]; rfl)) ?_; (with_reducible refine (laws_toIntS.calls kj41 _ _ l0 t150 _ ?side1 ?side2 A67.out).mono ?_); (case side1 => repeat (first | exact (Kd.C_below HR0.out HB.out) | (with_reducible refine Kd.C_alloc ?_ _) | (with_reducible refine Kd.C_drewN ?_ _) | (with_reducible refine Kd.C_drew ?_))); (case side2 => exact HC0.out); rintro e w75 ⟨v151, rfl, ho0, hb⟩; refine ⟨_, rfl, ?_⟩; have n0_ := sA (Kd.R_elder' (sR HO_119000.out) (Kd.R_base ho0) hb); have n1_ := sA (Kd.S_elder' (by (with_reducible repeat (first | apply Kd.S_alloc | apply Kd.S_drewN | apply Kd.S_drew)); exact HO_119001.out) (Kd.R_base ho0) hb); have n2_ := sA (Kd.R_elder' (sR HO_119002.out) (Kd.R_base ho0) hb); have n3_ := sA (Kd.R_elder' (sR HO_119003.out) (Kd.R_base ho0) hb); have n4_ := sA (Kd.R_elder' (sR HO_137000.out) (Kd.R_base ho0) hb); have n5_ := sA (Kd.S_elder' (by (with_reducible repeat (first | apply Kd.S_alloc | apply Kd.S_drewN | apply Kd.S_drew)); exact HO_137001.out) (Kd.R_base ho0) hb); have n6_ := sA (Kd.R_elder' (sR HO_137002.out) (Kd.R_base ho0) hb); have n7_ := sA (Kd.R_elder' (sR HO_137003.out) (Kd.R_base ho0) hb); have n8_ := sA (Kd.R_lower (Kd.R_new' (Kd.R_new' (Kd.R_new' (Kd.R_new' (Kd.R_new' (Kd.R_new' ho0 (Kd.R_lt (sR HO_119000.out))) (Kd.R_lt (sR HO_119002.out))) (Kd.R_lt (sR HO_119003.out))) (Kd.R_lt (sR HO_137000.out))) (Kd.R_lt (sR HO_137002.out))) (Kd.R_lt (sR HO_137003.out))) (below_size (by repeat (first | (with_reducible first | exact HB.out | apply sLA | apply sLN | apply sLD | refine sLS ?_ (Aside0.out (by assumption))) | exact HB.out)))); have n9_ := sA (blk_below (sB BK118.out) hb); have n10_ := sA (blk_below (sB BK136.out) hb); have n11_ := sA (below_step (by repeat (first | (with_reducible first | exact HB.out | apply sLA | apply sLN | apply sLD | refine sLS ?_ (Aside0.out (by assumption))) | exact HB.out)) hb); clear HO_119000; clear HO_119001; clear HO_119002; clear HO_119003; clear HO_137000; clear HO_137001; clear HO_137002; clear HO_137003; clear BK118; clear BK136; clear HB; have HO_119000 := n0_; have HO_119001 := n1_; have HO_119002 := n2_; have HO_119003 := n3_; have HO_137000 := n4_; have HO_137001 := n5_; have HO_137002 := n6_; have HO_137003 := n7_; have HO152 := n8_; have BK118 := n9_; have BK136 := n10_; have HB := n11_; clear n0_ n1_ n2_ n3_ n4_ n5_ n6_ n7_ n8_ n9_ n10_ n11_; (try clear hb); (try clear hb2); (try clear hk); (try clear hi); (try clear ho0); obtain ⟨Ao76, co76, eo76⟩ := Kd.R_slice HO152.out; subst eo76) | ((with_reducible refine gate_callee (f := 7) rfl ?_); refine goesL_ (some 73) rfl rfl Try.func7 (by kernel_rfl) rfl #[.slice Ao76 t150.length co76] rfl (by (try simp only [List.map_toArray, List.map_cons, List.map_nil]); first | done | rfl | (simp only [List.length_drop, List.length_take]; rfl)) ?_; (with_reducible refine (impl_NewTurns.calls _ _ t150 t153 t156 t159 t162 t165 t166 _ ?side1 ?side2 A68.out).mono ?_); (case side1 => repeat (first | exact (Kd.R_reads' HO152.out).2.2 | (with_reducible refine Kd.C_alloc ?_ _) | (with_reducible refine Kd.C_drewN ?_ _) | (with_reducible refine Kd.C_drew ?_))); (case side2 => exact (Kd.R_reads' HO152.out).2.1); rintro e w77 ⟨v154, v157, v160, v163, rfl, ho0, ho1, ho2, ho3, hb⟩; refine ⟨_, rfl, ?_⟩; have n0_ := sA (Kd.R_mono (Kd.R_told (Kd.R_told (Kd.R_told (Kd.R_old (sR HO_119000.out) hb) (Kd.R_base ho0)) (Kd.R_base ho2)) (Kd.R_base ho3)) (fun _ h_ => h_.1)); have n1_ := sA (Kd.S_mono (Kd.S_told (Kd.S_told (Kd.S_told (Kd.S_told (Kd.S_old (by (with_reducible repeat (first | apply Kd.S_alloc | apply Kd.S_drewN | apply Kd.S_drew)); exact HO_119001.out) hb) (Kd.R_base ho0)) (Kd.S_base ho1)) (Kd.R_base ho2)) (Kd.R_base ho3)) (fun _ h_ => h_.1)); have n2_ := sA (Kd.R_mono (Kd.R_told (Kd.R_told (Kd.R_told (Kd.R_old (sR HO_119002.out) hb) (Kd.R_base ho0)) (Kd.R_base ho2)) (Kd.R_base ho3)) (fun _ h_ => h_.1)); have n3_ := sA (Kd.R_mono (Kd.R_told (Kd.R_told (Kd.R_told (Kd.R_old (sR HO_119003.out) hb) (Kd.R_base ho0)) (Kd.R_base ho2)) (Kd.R_base ho3)) (fun _ h_ => h_.1)); have n4_ := sA (Kd.R_mono (Kd.R_told (Kd.R_told (Kd.R_told (Kd.R_old (sR HO_137000.out) hb) (Kd.R_base ho0)) (Kd.R_base ho2)) (Kd.R_base ho3)) (fun _ h_ => h_.1)); have n5_ := sA (Kd.S_mono (Kd.S_told (Kd.S_told (Kd.S_told (Kd.S_told (Kd.S_old (by (with_reducible repeat (first | apply Kd.S_alloc | apply Kd.S_drewN | apply Kd.S_drew)); exact HO_137001.out) hb) (Kd.R_base ho0)) (Kd.S_base ho1)) (Kd.R_base ho2)) (Kd.R_base ho3)) (fun _ h_ => h_.1)); have n6_ := sA (Kd.R_mono (Kd.R_told (Kd.R_told (Kd.R_told (Kd.R_old (sR HO_137002.out) hb) (Kd.R_base ho0)) (Kd.R_base ho2)) (Kd.R_base ho3)) (fun _ h_ => h_.1)); have n7_ := sA (Kd.R_mono (Kd.R_told (Kd.R_told (Kd.R_told (Kd.R_old (sR HO_137003.out) hb) (Kd.R_base ho0)) (Kd.R_base ho2)) (Kd.R_base ho3)) (fun _ h_ => h_.1)); have n8_ := sA (Kd.R_mono (Kd.R_told (Kd.R_told (Kd.R_told (Kd.R_old (sR HO152.out) hb) (Kd.R_base ho0)) (Kd.R_base ho2)) (Kd.R_base ho3)) (fun _ h_ => h_.1)); have n9_ := sA (Kd.R_lower (Kd.R_new' (Kd.R_new' (Kd.R_new' (Kd.R_new' (Kd.R_new' (Kd.R_new' (Kd.R_new' ho0 (Kd.R_lt (sR HO_119000.out))) (Kd.R_lt (sR HO_119002.out))) (Kd.R_lt (sR HO_119003.out))) (Kd.R_lt (sR HO_137000.out))) (Kd.R_lt (sR HO_137002.out))) (Kd.R_lt (sR HO_137003.out))) (Kd.R_lt (sR HO152.out))) (below_size (by repeat (first | (with_reducible first | exact HB.out | apply sLA | apply sLN | apply sLD | refine sLS ?_ (Aside0.out (by assumption))) | exact HB.out)))); have n10_ := sA (Kd.S_lower (Kd.S_new' (Kd.S_new' (Kd.S_new' (Kd.S_new' (Kd.S_new' (Kd.S_new' (Kd.S_new' (Kd.S_new' (Kd.S_new' ho1 (Kd.R_lt (sR HO_119000.out))) (Kd.S_lt (by (with_reducible repeat (first | apply Kd.S_alloc | apply Kd.S_drewN | apply Kd.S_drew)); exact HO_119001.out))) (Kd.R_lt (sR HO_119002.out))) (Kd.R_lt (sR HO_119003.out))) (Kd.R_lt (sR HO_137000.out))) (Kd.S_lt (by (with_reducible repeat (first | apply Kd.S_alloc | apply Kd.S_drewN | apply Kd.S_drew)); exact HO_137001.out))) (Kd.R_lt (sR HO_137002.out))) (Kd.R_lt (sR HO_137003.out))) (Kd.R_lt (sR HO152.out))) (below_size (by repeat (first | (with_reducible first | exact HB.out | apply sLA | apply sLN | apply sLD | refine sLS ?_ (Aside0.out (by assumption))) | exact HB.out)))); have n11_ := sA (Kd.R_lower (Kd.R_new' (Kd.R_new' (Kd.R_new' (Kd.R_new' (Kd.R_new' (Kd.R_new' (Kd.R_new' ho2 (Kd.R_lt (sR HO_119000.out))) (Kd.R_lt (sR HO_119002.out))) (Kd.R_lt (sR HO_119003.out))) (Kd.R_lt (sR HO_137000.out))) (Kd.R_lt (sR HO_137002.out))) (Kd.R_lt (sR HO_137003.out))) (Kd.R_lt (sR HO152.out))) (below_size (by repeat (first | (with_reducible first | exact HB.out | apply sLA | apply sLN | apply sLD | refine sLS ?_ (Aside0.out (by assumption))) | exact HB.out)))); have n12_ := sA (Kd.R_lower (Kd.R_new' (Kd.R_new' (Kd.R_new' (Kd.R_new' (Kd.R_new' (Kd.R_new' (Kd.R_new' ho3 (Kd.R_lt (sR HO_119000.out))) (Kd.R_lt (sR HO_119002.out))) (Kd.R_lt (sR HO_119003.out))) (Kd.R_lt (sR HO_137000.out))) (Kd.R_lt (sR HO_137002.out))) (Kd.R_lt (sR HO_137003.out))) (Kd.R_lt (sR HO152.out))) (below_size (by repeat (first | (with_reducible first | exact HB.out | apply sLA | apply sLN | apply sLD | refine sLS ?_ (Aside0.out (by assumption))) | exact HB.out)))); have n13_ := sA (blk_below (sB BK118.out) hb); have n14_ := sA (blk_below (sB BK136.out) hb); have n15_ := sA (below_step (by repeat (first | (with_reducible first | exact HB.out | apply sLA | apply sLN | apply sLD | refine sLS ?_ (Aside0.out (by assumption))) | exact HB.out)) hb); clear HO_119000; clear HO_119001; clear HO_119002; clear HO_119003; clear HO_137000; clear HO_137001; clear HO_137002; clear HO_137003; clear HO152; clear BK118; clear BK136; clear HB; have HO_119000 := n0_; have HO_119001 := n1_; have HO_119002 := n2_; have HO_119003 := n3_; have HO_137000 := n4_; have HO_137001 := n5_; have HO_137002 := n6_; have HO_137003 := n7_; have HO152 := n8_; have HO155 := n9_; have HO158 := n10_; have HO161 := n11_; have HO164 := n12_; have BK118 := n13_; have BK136 := n14_; have HB := n15_; clear n0_ n1_ n2_ n3_ n4_ n5_ n6_ n7_ n8_ n9_ n10_ n11_ n12_ n13_ n14_ n15_; (try clear hb); (try clear hb2); (try clear hk); (try clear hi); (try clear ho0); (try clear ho1); (try clear ho2); (try clear ho3)) | ((with_reducible refine gate_dst (N := 11) rfl ?_); refine box_event ?hg (N := 11) ?hd (cs := #[.slice none 0 0, .slice none 0 0, .slice none 0 0, .slice none 0 0, .int .i64 0]) (t := 25) ?hr ?_; (case hd => rfl); (case hg => rfl); (case hr => first | (go_simp; done) | (go_simp; rfl)); intro gb167 hg w78 hbox hb; have n0_ := sA (Kd.R_below (sR HO_119000.out) hb); have n1_ := sA (Kd.S_below (by (with_reducible repeat (first | apply Kd.S_alloc | apply Kd.S_drewN | apply Kd.S_drew)); exact HO_119001.out) hb); have n2_ := sA (Kd.R_below (sR HO_119002.out) hb); have n3_ := sA (Kd.R_below (sR HO_119003.out) hb); have n4_ := sA (Kd.R_below (sR HO_137000.out) hb); have n5_ := sA (Kd.S_below (by (with_reducible repeat (first | apply Kd.S_alloc | apply Kd.S_drewN | apply Kd.S_drew)); exact HO_137001.out) hb); have n6_ := sA (Kd.R_below (sR HO_137002.out) hb); have n7_ := sA (Kd.R_below (sR HO_137003.out) hb); have n8_ := sA (Kd.R_below (sR HO152.out) hb); have n9_ := sA (Kd.R_below (sR HO155.out) hb); have n10_ := sA (Kd.S_below (by (with_reducible repeat (first | apply Kd.S_alloc | apply Kd.S_drewN | apply Kd.S_drew)); exact HO158.out) hb); have n11_ := sA (Kd.R_below (sR HO161.out) hb); have n12_ := sA (Kd.R_below (sR HO164.out) hb); have n13_ := sA (blk_below (sB BK118.out) hb); have n14_ := sA (blk_below (sB BK136.out) hb); have n15_ := sA (below_step (by repeat (first | (with_reducible first | exact HB.out | apply sLA | apply sLN | apply sLD | refine sLS ?_ (Aside0.out (by assumption))) | exact HB.out)) hb); have n16_ := sA (hbox); have n17_ := sA ((by rw [hg]; exact (below_size (by repeat (first | (with_reducible first | exact HB.out | apply sLA | apply sLN | apply sLD | refine sLS ?_ (Aside0.out (by assumption))) | exact HB.out))) : w.heap.size ≤ gb167)); have n18_ := sA ((by rw [hg]; exact (below_size (by repeat (first | (with_reducible first | exact HB.out | apply sLA | apply sLN | apply sLD | refine sLS ?_ (Aside0.out (by assumption))) | exact HB.out))) : w.heap.size ≤ gb167)); have n19_ := sA ((by rw [hg]; exact Nat.ne_of_lt (blk_lt (sB BK118.out)) : gb118 ≠ gb167)); have n20_ := sA ((by rw [hg]; exact Nat.ne_of_gt (blk_lt (sB BK118.out)) : gb167 ≠ gb118)); have n21_ := sA ((by rw [hg]; exact Nat.ne_of_lt (blk_lt (sB BK136.out)) : gb136 ≠ gb167)); have n22_ := sA ((by rw [hg]; exact Nat.ne_of_gt (blk_lt (sB BK136.out)) : gb167 ≠ gb136)); clear HO_119000; clear HO_119001; clear HO_119002; clear HO_119003; clear HO_137000; clear HO_137001; clear HO_137002; clear HO_137003; clear HO152; clear HO155; clear HO158; clear HO161; clear HO164; clear BK118; clear BK136; clear HB; have HO_119000 := n0_; have HO_119001 := n1_; have HO_119002 := n2_; have HO_119003 := n3_; have HO_137000 := n4_; have HO_137001 := n5_; have HO_137002 := n6_; have HO_137003 := n7_; have HO152 := n8_; have HO155 := n9_; have HO158 := n10_; have HO161 := n11_; have HO164 := n12_; have BK118 := n13_; have BK136 := n14_; have HB := n15_; have BK167 := n16_; have GW167 := n17_; have GE167 := n18_; have NB118_167 := n19_; have NB167_118 := n20_; have NB136_167 := n21_; have NB167_136 := n22_; clear n0_ n1_ n2_ n3_ n4_ n5_ n6_ n7_ n8_ n9_ n10_ n11_ n12_ n13_ n14_ n15_ n16_ n17_ n18_ n19_ n20_ n21_ n22_; clear hb hbox hg; obtain ⟨Ao79, co79, eo79⟩ := Kd.R_slice HO155.out; subst eo79; have hnb80 := NB167_118.out; have hnc80 := NB118_167.out; have hnb81 := NB167_136.out; have hnc81 := NB136_167.out; have hcz82_0 : w78.cell? ⟨gb167, 0, none⟩ = some (.slice none 0 0) := sC BK167 0 rfl; have hcz82_1 : w78.cell? ⟨gb167, 1, none⟩ = some (.slice none 0 0) := sC BK167 1 rfl; have hcz82_2 : w78.cell? ⟨gb167, 2, none⟩ = some (.slice none 0 0) := sC BK167 2 rfl; have hcz82_3 : w78.cell? ⟨gb167, 3, none⟩ = some (.slice none 0 0) := sC BK167 3 rfl; have hcz82_4 : w78.cell? ⟨gb167, 4, none⟩ = some (.int .i64 0) := sC BK167 4 rfl; have hfz82_0 := blk_frozen BK167.out 0; have hfz82_1 := blk_frozen BK167.out 1; have hfz82_2 := blk_frozen BK167.out 2; have hfz82_3 := blk_frozen BK167.out 3; have hfz82_4 := blk_frozen BK167.out 4; obtain ⟨Ao83, co83, eo83⟩ := Kd.S_slice HO158.out; subst eo83; obtain ⟨Ao84, co84, eo84⟩ := Kd.R_slice HO161.out; subst eo84; obtain ⟨Ao85, co85, eo85⟩ := Kd.R_slice HO164.out; subst eo85))
           (try simp only [Act.put, sI, sZ, sV])
           go_cut [84] (fun v84 wc => ∃ (kq : Nat) (x84_68 : Bool), v84 = .bool x84_68 ∧ Aside0 (laws_FnExactNewTurns.j2 kq t145 x84_68 t146 t125 t147 t148 t134 = some r) ∧ Aside0 (kq ≤ kj41) ∧ Aside0 (Kd.R (Kd.int .i64) 3 wc w.heap.size (fun k_ => some k_ ≠ ((.slice Ao15 t110.length co15) : Value).ownBlock ∧ some k_ ≠ ((.slice Ao16 t113.length co16) : Value).ownBlock ∧ some k_ ≠ ((.slice Ao21 t122.length co21) : Value).ownBlock ∧ some k_ ≠ ((.slice Ao25 t128.length co25) : Value).ownBlock ∧ some k_ ≠ ((.slice Ao26 t131.length co26) : Value).ownBlock ∧ some k_ ≠ ((.slice Ao79 t153.length co79) : Value).ownBlock ∧ some k_ ≠ ((.slice Ao84 t159.length co84) : Value).ownBlock ∧ some k_ ≠ ((.slice Ao85 t162.length co85) : Value).ownBlock) (.slice Ao12 t104.length co12) t104) ∧ Aside0 (Kd.S (Kd.slice 3 (Kd.int .i64)) 22 wc w.heap.size (fun k_ => some k_ ≠ ((.slice Ao12 t104.length co12) : Value).ownBlock ∧ some k_ ≠ ((.slice Ao15 t110.length co15) : Value).ownBlock ∧ some k_ ≠ ((.slice Ao16 t113.length co16) : Value).ownBlock ∧ some k_ ≠ ((.slice Ao21 t122.length co21) : Value).ownBlock ∧ some k_ ≠ ((.slice Ao24 t125.length co24) : Value).ownBlock ∧ some k_ ≠ ((.slice Ao25 t128.length co25) : Value).ownBlock ∧ some k_ ≠ ((.slice Ao26 t131.length co26) : Value).ownBlock ∧ some k_ ≠ ((.slice Ao79 t153.length co79) : Value).ownBlock ∧ some k_ ≠ ((.slice Ao83 t156.length co83) : Value).ownBlock ∧ some k_ ≠ ((.slice Ao84 t159.length co84) : Value).ownBlock ∧ some k_ ≠ ((.slice Ao85 t162.length co85) : Value).ownBlock) (.slice Ao14 t107.length co14) t107) ∧ Aside0 (Kd.R (Kd.int .i64) 3 wc w.heap.size (fun k_ => some k_ ≠ ((.slice Ao12 t104.length co12) : Value).ownBlock ∧ some k_ ≠ ((.slice Ao16 t113.length co16) : Value).ownBlock ∧ some k_ ≠ ((.slice Ao21 t122.length co21) : Value).ownBlock ∧ some k_ ≠ ((.slice Ao25 t128.length co25) : Value).ownBlock ∧ some k_ ≠ ((.slice Ao26 t131.length co26) : Value).ownBlock ∧ some k_ ≠ ((.slice Ao79 t153.length co79) : Value).ownBlock ∧ some k_ ≠ ((.slice Ao84 t159.length co84) : Value).ownBlock ∧ some k_ ≠ ((.slice Ao85 t162.length co85) : Value).ownBlock) (.slice Ao15 t110.length co15) t110) ∧ Aside0 (Kd.R (Kd.int .i64) 3 wc w.heap.size (fun k_ => some k_ ≠ ((.slice Ao12 t104.length co12) : Value).ownBlock ∧ some k_ ≠ ((.slice Ao15 t110.length co15) : Value).ownBlock ∧ some k_ ≠ ((.slice Ao21 t122.length co21) : Value).ownBlock ∧ some k_ ≠ ((.slice Ao25 t128.length co25) : Value).ownBlock ∧ some k_ ≠ ((.slice Ao26 t131.length co26) : Value).ownBlock ∧ some k_ ≠ ((.slice Ao79 t153.length co79) : Value).ownBlock ∧ some k_ ≠ ((.slice Ao84 t159.length co84) : Value).ownBlock ∧ some k_ ≠ ((.slice Ao85 t162.length co85) : Value).ownBlock) (.slice Ao16 t113.length co16) t113) ∧ Aside0 (Kd.R (Kd.int .i64) 3 wc w.heap.size (fun k_ => some k_ ≠ ((.slice Ao12 t104.length co12) : Value).ownBlock ∧ some k_ ≠ ((.slice Ao15 t110.length co15) : Value).ownBlock ∧ some k_ ≠ ((.slice Ao16 t113.length co16) : Value).ownBlock ∧ some k_ ≠ ((.slice Ao25 t128.length co25) : Value).ownBlock ∧ some k_ ≠ ((.slice Ao26 t131.length co26) : Value).ownBlock ∧ some k_ ≠ ((.slice Ao79 t153.length co79) : Value).ownBlock ∧ some k_ ≠ ((.slice Ao84 t159.length co84) : Value).ownBlock ∧ some k_ ≠ ((.slice Ao85 t162.length co85) : Value).ownBlock) (.slice Ao21 t122.length co21) t146) ∧ Aside0 (Kd.S (Kd.slice 3 (Kd.int .i64)) 22 wc w.heap.size (fun k_ => some k_ ≠ ((.slice Ao12 t104.length co12) : Value).ownBlock ∧ some k_ ≠ ((.slice Ao14 t107.length co14) : Value).ownBlock ∧ some k_ ≠ ((.slice Ao15 t110.length co15) : Value).ownBlock ∧ some k_ ≠ ((.slice Ao16 t113.length co16) : Value).ownBlock ∧ some k_ ≠ ((.slice Ao21 t122.length co21) : Value).ownBlock ∧ some k_ ≠ ((.slice Ao25 t128.length co25) : Value).ownBlock ∧ some k_ ≠ ((.slice Ao26 t131.length co26) : Value).ownBlock ∧ some k_ ≠ ((.slice Ao79 t153.length co79) : Value).ownBlock ∧ some k_ ≠ ((.slice Ao83 t156.length co83) : Value).ownBlock ∧ some k_ ≠ ((.slice Ao84 t159.length co84) : Value).ownBlock ∧ some k_ ≠ ((.slice Ao85 t162.length co85) : Value).ownBlock) (.slice Ao24 t125.length co24) t125) ∧ Aside0 (Kd.R (Kd.int .i64) 3 wc w.heap.size (fun k_ => some k_ ≠ ((.slice Ao12 t104.length co12) : Value).ownBlock ∧ some k_ ≠ ((.slice Ao15 t110.length co15) : Value).ownBlock ∧ some k_ ≠ ((.slice Ao16 t113.length co16) : Value).ownBlock ∧ some k_ ≠ ((.slice Ao21 t122.length co21) : Value).ownBlock ∧ some k_ ≠ ((.slice Ao26 t131.length co26) : Value).ownBlock ∧ some k_ ≠ ((.slice Ao79 t153.length co79) : Value).ownBlock ∧ some k_ ≠ ((.slice Ao84 t159.length co84) : Value).ownBlock ∧ some k_ ≠ ((.slice Ao85 t162.length co85) : Value).ownBlock) (.slice Ao25 t128.length co25) t147) ∧ Aside0 (Kd.R (Kd.int .i64) 3 wc w.heap.size (fun k_ => some k_ ≠ ((.slice Ao12 t104.length co12) : Value).ownBlock ∧ some k_ ≠ ((.slice Ao15 t110.length co15) : Value).ownBlock ∧ some k_ ≠ ((.slice Ao16 t113.length co16) : Value).ownBlock ∧ some k_ ≠ ((.slice Ao21 t122.length co21) : Value).ownBlock ∧ some k_ ≠ ((.slice Ao25 t128.length co25) : Value).ownBlock ∧ some k_ ≠ ((.slice Ao79 t153.length co79) : Value).ownBlock ∧ some k_ ≠ ((.slice Ao84 t159.length co84) : Value).ownBlock ∧ some k_ ≠ ((.slice Ao85 t162.length co85) : Value).ownBlock) (.slice Ao26 t131.length co26) t148) ∧ Aside0 (Kd.R (Kd.int .i64) 3 wc w.heap.size (fun k_ => some k_ ≠ ((.slice Ao12 t104.length co12) : Value).ownBlock ∧ some k_ ≠ ((.slice Ao15 t110.length co15) : Value).ownBlock ∧ some k_ ≠ ((.slice Ao16 t113.length co16) : Value).ownBlock ∧ some k_ ≠ ((.slice Ao21 t122.length co21) : Value).ownBlock ∧ some k_ ≠ ((.slice Ao25 t128.length co25) : Value).ownBlock ∧ some k_ ≠ ((.slice Ao26 t131.length co26) : Value).ownBlock ∧ some k_ ≠ ((.slice Ao84 t159.length co84) : Value).ownBlock ∧ some k_ ≠ ((.slice Ao85 t162.length co85) : Value).ownBlock) (.slice Ao79 t153.length co79) t153) ∧ Aside0 (Kd.S (Kd.slice 3 (Kd.int .i64)) 22 wc w.heap.size (fun k_ => some k_ ≠ ((.slice Ao12 t104.length co12) : Value).ownBlock ∧ some k_ ≠ ((.slice Ao14 t107.length co14) : Value).ownBlock ∧ some k_ ≠ ((.slice Ao15 t110.length co15) : Value).ownBlock ∧ some k_ ≠ ((.slice Ao16 t113.length co16) : Value).ownBlock ∧ some k_ ≠ ((.slice Ao21 t122.length co21) : Value).ownBlock ∧ some k_ ≠ ((.slice Ao24 t125.length co24) : Value).ownBlock ∧ some k_ ≠ ((.slice Ao25 t128.length co25) : Value).ownBlock ∧ some k_ ≠ ((.slice Ao26 t131.length co26) : Value).ownBlock ∧ some k_ ≠ ((.slice Ao79 t153.length co79) : Value).ownBlock ∧ some k_ ≠ ((.slice Ao84 t159.length co84) : Value).ownBlock ∧ some k_ ≠ ((.slice Ao85 t162.length co85) : Value).ownBlock) (.slice Ao83 t156.length co83) t156) ∧ Aside0 (Kd.R (Kd.int .i64) 3 wc w.heap.size (fun k_ => some k_ ≠ ((.slice Ao12 t104.length co12) : Value).ownBlock ∧ some k_ ≠ ((.slice Ao15 t110.length co15) : Value).ownBlock ∧ some k_ ≠ ((.slice Ao16 t113.length co16) : Value).ownBlock ∧ some k_ ≠ ((.slice Ao21 t122.length co21) : Value).ownBlock ∧ some k_ ≠ ((.slice Ao25 t128.length co25) : Value).ownBlock ∧ some k_ ≠ ((.slice Ao26 t131.length co26) : Value).ownBlock ∧ some k_ ≠ ((.slice Ao79 t153.length co79) : Value).ownBlock ∧ some k_ ≠ ((.slice Ao85 t162.length co85) : Value).ownBlock) (.slice Ao84 t159.length co84) t159) ∧ Aside0 (Kd.R (Kd.int .i64) 3 wc w.heap.size (fun k_ => some k_ ≠ ((.slice Ao12 t104.length co12) : Value).ownBlock ∧ some k_ ≠ ((.slice Ao15 t110.length co15) : Value).ownBlock ∧ some k_ ≠ ((.slice Ao16 t113.length co16) : Value).ownBlock ∧ some k_ ≠ ((.slice Ao21 t122.length co21) : Value).ownBlock ∧ some k_ ≠ ((.slice Ao25 t128.length co25) : Value).ownBlock ∧ some k_ ≠ ((.slice Ao26 t131.length co26) : Value).ownBlock ∧ some k_ ≠ ((.slice Ao79 t153.length co79) : Value).ownBlock ∧ some k_ ≠ ((.slice Ao84 t159.length co84) : Value).ownBlock) (.slice Ao85 t162.length co85) t162) ∧ Aside0 (wc.heap[gb118]? = some (.cells #[(.slice Ao12 t104.length co12), (.slice Ao14 t107.length co14), (.slice Ao15 t110.length co15), (.slice Ao16 t113.length co16), .int .i64 t116] 25 (0, 0))) ∧ Aside0 (wc.heap[gb136]? = some (.cells #[(.slice Ao21 t122.length co21), (.slice Ao24 t125.length co24), (.slice Ao25 t128.length co25), (.slice Ao26 t131.length co26), .int .i64 t134] 25 (0, 0))) ∧ Aside0 (wc.heap[gb167]? = some (.cells #[(.slice Ao79 t153.length co79), (.slice Ao83 t156.length co83), (.slice Ao84 t159.length co84), (.slice Ao85 t162.length co85), .int .i64 t165] 25 (0, 0))) ∧ Aside0 (Below w.heap.size w wc))
           case first =>
            have H := HC69.out
            clear HC69
            replace H := Option.bind_eq_some_iff.mp H
            obtain ⟨t168, A860, H⟩ := H
            replace H : (if t168 = true then (laws_FnExactNewTurns.j2 kj41 t145 (t166 != t117) t146 t125 t147 t148 t134) else (laws_FnExactNewTurns.j2 kj41 t145 true t146 t125 t147 t148 t134)) = some r := H
            have A86 := sA A860
            clear A860
            by_cases c87 : t168 = true
            ·subst c87
             have H1 : (laws_FnExactNewTurns.j2 kj41 t145 (t166 != t117) t146 t125 t147 t148 t134) = some r := by rw [if_pos rfl] at H; exact H
             clear H
             have H := H1
             clear H1
             have H' := sA H
             clear H
             have hnb88 := NB167_118.out
             have hnc88 := NB118_167.out
             have hnb89 := NB167_136.out
             have hnc89 := NB136_167.out
             have hcz90_0 : w78.cell? ⟨gb167, 0, none⟩ = some (.slice none 0 0) := sC BK167 0 rfl
             have hcz90_1 : w78.cell? ⟨gb167, 1, none⟩ = some (.slice none 0 0) := sC BK167 1 rfl
             have hcz90_2 : w78.cell? ⟨gb167, 2, none⟩ = some (.slice none 0 0) := sC BK167 2 rfl
             have hcz90_3 : w78.cell? ⟨gb167, 3, none⟩ = some (.slice none 0 0) := sC BK167 3 rfl
             have hcz90_4 : w78.cell? ⟨gb167, 4, none⟩ = some (.int .i64 0) := sC BK167 4 rfl
             have hfz90_0 := blk_frozen BK167.out 0
             have hfz90_1 := blk_frozen BK167.out 1
             have hfz90_2 := blk_frozen BK167.out 2
             have hfz90_3 := blk_frozen BK167.out 3
             have hfz90_4 := blk_frozen BK167.out 4
             have hnb91 := NB118_136.out
             have hnc91 := NB136_118.out
             have hcz92_0 : w78.cell? ⟨gb118, 0, none⟩ = some (.slice Ao12 t104.length co12) := sC BK118 0 rfl
             have hcz92_1 : w78.cell? ⟨gb118, 1, none⟩ = some (.slice Ao14 t107.length co14) := sC BK118 1 rfl
             have hcz92_2 : w78.cell? ⟨gb118, 2, none⟩ = some (.slice Ao15 t110.length co15) := sC BK118 2 rfl
             have hcz92_3 : w78.cell? ⟨gb118, 3, none⟩ = some (.slice Ao16 t113.length co16) := sC BK118 3 rfl
             have hcz92_4 : w78.cell? ⟨gb118, 4, none⟩ = some (.int .i64 t116) := sC BK118 4 rfl
             have hfz92_0 := blk_frozen BK118.out 0
             have hfz92_1 := blk_frozen BK118.out 1
             have hfz92_2 := blk_frozen BK118.out 2
             have hfz92_3 := blk_frozen BK118.out 3
             have hfz92_4 := blk_frozen BK118.out 4
             go_wp2_with (first | ((with_reducible refine gate_callee (f := 8) rfl ?_); refine goesL_ (some 78) rfl rfl Try.func8 (by kernel_rfl) rfl #[.agg #[.slice Ao79 t153.length co79, .slice Ao83 t156.length co83, .slice Ao84 t159.length co84, .slice Ao85 t162.length co85, .int .i64 t165], .agg #[.slice Ao12 t104.length co12, .slice Ao14 t107.length co14, .slice Ao15 t110.length co15, .slice Ao16 t113.length co16, .int .i64 t116]] rfl (by (try simp only [List.map_toArray, List.map_cons, List.map_nil]); first | done | rfl | (simp only [List.length_drop, List.length_take]; rfl)) ?_; (with_reducible refine (laws_eqTurns.calls kj41 _ _ t153 _ _ t156 _ _ t159 _ _ t162 t165 _ _ t104 _ _ t107 _ _ t110 _ _ t113 t116 true _ ?side1 ?side2 ?side3 ?side4 ?side5 ?side6 ?side7 ?side8 ?side9 ?side10 ?side11 ?side12 ?side13 ?side14 ?side15 ?side16 A86.out).mono ?_); (case side1 => refine (Kd.R_reads' (e := 3) (base := w.heap.size) (ok := fun k_ => ((((((((some k_ ≠ (.slice Ao84 t159.length co84 : Value).ownBlock ∧ some k_ ≠ (.slice Ao85 t162.length co85 : Value).ownBlock) ∧ some k_ ≠ (.slice Ao12 t104.length co12 : Value).ownBlock) ∧ some k_ ≠ (.slice Ao15 t110.length co15 : Value).ownBlock) ∧ some k_ ≠ (.slice Ao16 t113.length co16 : Value).ownBlock) ∧ some k_ ≠ (.slice Ao21 t122.length co21 : Value).ownBlock) ∧ some k_ ≠ (.slice Ao25 t128.length co25 : Value).ownBlock) ∧ some k_ ≠ (.slice Ao26 t131.length co26 : Value).ownBlock) ∧ some k_ ≠ (.slice Ao76 t150.length co76 : Value).ownBlock)) (n := t153.length) (c := co79) ?_).2.2; exact (sR (Kd.R_mono (Kd.R_far (p := ⟨gb167, 4, none⟩) (Kd.R_far (p := ⟨gb167, 3, none⟩) (Kd.R_far (p := ⟨gb167, 2, none⟩) (Kd.R_far (p := ⟨gb167, 1, none⟩) (Kd.R_far (p := ⟨gb167, 0, none⟩) (Kd.R_types HO155.out BK167.out (by decide)) (fun _ hk => hk.2) (.slice Ao79 t153.length co79)) (fun _ hk => hk.2) (.slice Ao83 t156.length co83)) (fun _ hk => hk.2) (.slice Ao84 t159.length co84)) (fun _ hk => hk.2) (.slice Ao85 t162.length co85)) (fun _ hk => hk.2) (.int .i64 t165)) (fun _ h_ => h_.1)))); (case side2 => exact (Kd.R_reads' HO155.out).2.1); (case side3 => refine (Kd.S_reads' (e := 22) (base := w.heap.size) (ok := fun k_ => ((((((((((some k_ ≠ (.slice Ao79 t153.length co79 : Value).ownBlock ∧ (some k_ ≠ (.slice Ao84 t159.length co84 : Value).ownBlock ∧ some k_ ≠ (.slice Ao85 t162.length co85 : Value).ownBlock)) ∧ some k_ ≠ (.slice Ao12 t104.length co12 : Value).ownBlock) ∧ some k_ ≠ (.slice Ao14 t107.length co14 : Value).ownBlock) ∧ some k_ ≠ (.slice Ao15 t110.length co15 : Value).ownBlock) ∧ some k_ ≠ (.slice Ao16 t113.length co16 : Value).ownBlock) ∧ some k_ ≠ (.slice Ao21 t122.length co21 : Value).ownBlock) ∧ some k_ ≠ (.slice Ao24 t125.length co24 : Value).ownBlock) ∧ some k_ ≠ (.slice Ao25 t128.length co25 : Value).ownBlock) ∧ some k_ ≠ (.slice Ao26 t131.length co26 : Value).ownBlock) ∧ some k_ ≠ (.slice Ao76 t150.length co76 : Value).ownBlock)) (n := t156.length) (c := co83) ?_).2.2; exact (by (with_reducible repeat (first | apply Kd.S_alloc | apply Kd.S_drewN | apply Kd.S_drew)); exact (Kd.S_mono (Kd.S_far (p := ⟨gb167, 4, none⟩) (Kd.S_far (p := ⟨gb167, 3, none⟩) (Kd.S_far (p := ⟨gb167, 2, none⟩) (Kd.S_far (p := ⟨gb167, 1, none⟩) (Kd.S_far (p := ⟨gb167, 0, none⟩) (Kd.S_types HO158.out BK167.out (by decide)) (fun _ hk => hk.2) (.slice Ao79 t153.length co79)) (fun _ hk => hk.2) (.slice Ao83 t156.length co83)) (fun _ hk => hk.2) (.slice Ao84 t159.length co84)) (fun _ hk => hk.2) (.slice Ao85 t162.length co85)) (fun _ hk => hk.2) (.int .i64 t165)) (fun _ h_ => h_.1)))); (case side4 => exact (Kd.S_reads' HO158.out).2.1); (case side5 => refine (Kd.R_reads' (e := 3) (base := w.heap.size) (ok := fun k_ => ((((((((some k_ ≠ (.slice Ao79 t153.length co79 : Value).ownBlock ∧ some k_ ≠ (.slice Ao85 t162.length co85 : Value).ownBlock) ∧ some k_ ≠ (.slice Ao12 t104.length co12 : Value).ownBlock) ∧ some k_ ≠ (.slice Ao15 t110.length co15 : Value).ownBlock) ∧ some k_ ≠ (.slice Ao16 t113.length co16 : Value).ownBlock) ∧ some k_ ≠ (.slice Ao21 t122.length co21 : Value).ownBlock) ∧ some k_ ≠ (.slice Ao25 t128.length co25 : Value).ownBlock) ∧ some k_ ≠ (.slice Ao26 t131.length co26 : Value).ownBlock) ∧ some k_ ≠ (.slice Ao76 t150.length co76 : Value).ownBlock)) (n := t159.length) (c := co84) ?_).2.2; exact (sR (Kd.R_mono (Kd.R_far (p := ⟨gb167, 4, none⟩) (Kd.R_far (p := ⟨gb167, 3, none⟩) (Kd.R_far (p := ⟨gb167, 2, none⟩) (Kd.R_far (p := ⟨gb167, 1, none⟩) (Kd.R_far (p := ⟨gb167, 0, none⟩) (Kd.R_types HO161.out BK167.out (by decide)) (fun _ hk => hk.2) (.slice Ao79 t153.length co79)) (fun _ hk => hk.2) (.slice Ao83 t156.length co83)) (fun _ hk => hk.2) (.slice Ao84 t159.length co84)) (fun _ hk => hk.2) (.slice Ao85 t162.length co85)) (fun _ hk => hk.2) (.int .i64 t165)) (fun _ h_ => h_.1)))); (case side6 => exact (Kd.R_reads' HO161.out).2.1); (case side7 => refine (Kd.R_reads' (e := 3) (base := w.heap.size) (ok := fun k_ => ((((((((some k_ ≠ (.slice Ao79 t153.length co79 : Value).ownBlock ∧ some k_ ≠ (.slice Ao84 t159.length co84 : Value).ownBlock) ∧ some k_ ≠ (.slice Ao12 t104.length co12 : Value).ownBlock) ∧ some k_ ≠ (.slice Ao15 t110.length co15 : Value).ownBlock) ∧ some k_ ≠ (.slice Ao16 t113.length co16 : Value).ownBlock) ∧ some k_ ≠ (.slice Ao21 t122.length co21 : Value).ownBlock) ∧ some k_ ≠ (.slice Ao25 t128.length co25 : Value).ownBlock) ∧ some k_ ≠ (.slice Ao26 t131.length co26 : Value).ownBlock) ∧ some k_ ≠ (.slice Ao76 t150.length co76 : Value).ownBlock)) (n := t162.length) (c := co85) ?_).2.2; exact (sR (Kd.R_mono (Kd.R_far (p := ⟨gb167, 4, none⟩) (Kd.R_far (p := ⟨gb167, 3, none⟩) (Kd.R_far (p := ⟨gb167, 2, none⟩) (Kd.R_far (p := ⟨gb167, 1, none⟩) (Kd.R_far (p := ⟨gb167, 0, none⟩) (Kd.R_types HO164.out BK167.out (by decide)) (fun _ hk => hk.2) (.slice Ao79 t153.length co79)) (fun _ hk => hk.2) (.slice Ao83 t156.length co83)) (fun _ hk => hk.2) (.slice Ao84 t159.length co84)) (fun _ hk => hk.2) (.slice Ao85 t162.length co85)) (fun _ hk => hk.2) (.int .i64 t165)) (fun _ h_ => h_.1)))); (case side8 => exact (Kd.R_reads' HO164.out).2.1); (case side9 => refine (Kd.R_reads' (e := 3) (base := w.heap.size) (ok := fun k_ => (((((some k_ ≠ (.slice Ao15 t110.length co15 : Value).ownBlock ∧ (some k_ ≠ (.slice Ao16 t113.length co16 : Value).ownBlock ∧ (some k_ ≠ (.slice Ao21 t122.length co21 : Value).ownBlock ∧ (some k_ ≠ (.slice Ao25 t128.length co25 : Value).ownBlock ∧ some k_ ≠ (.slice Ao26 t131.length co26 : Value).ownBlock)))) ∧ some k_ ≠ (.slice Ao76 t150.length co76 : Value).ownBlock) ∧ some k_ ≠ (.slice Ao79 t153.length co79 : Value).ownBlock) ∧ some k_ ≠ (.slice Ao84 t159.length co84 : Value).ownBlock) ∧ some k_ ≠ (.slice Ao85 t162.length co85 : Value).ownBlock)) (n := t104.length) (c := co12) ?_).2.2; exact (sR (Kd.R_mono (Kd.R_far (p := ⟨gb167, 4, none⟩) (Kd.R_far (p := ⟨gb167, 3, none⟩) (Kd.R_far (p := ⟨gb167, 2, none⟩) (Kd.R_far (p := ⟨gb167, 1, none⟩) (Kd.R_far (p := ⟨gb167, 0, none⟩) (Kd.R_types HO_119000.out BK167.out (by decide)) (fun _ hk => hk.2) (.slice Ao79 t153.length co79)) (fun _ hk => hk.2) (.slice Ao83 t156.length co83)) (fun _ hk => hk.2) (.slice Ao84 t159.length co84)) (fun _ hk => hk.2) (.slice Ao85 t162.length co85)) (fun _ hk => hk.2) (.int .i64 t165)) (fun _ h_ => h_.1)))); (case side10 => exact (Kd.R_reads' HO_119000.out).2.1); (case side11 => refine (Kd.S_reads' (e := 22) (base := w.heap.size) (ok := fun k_ => ((((((some k_ ≠ (.slice Ao12 t104.length co12 : Value).ownBlock ∧ (some k_ ≠ (.slice Ao15 t110.length co15 : Value).ownBlock ∧ (some k_ ≠ (.slice Ao16 t113.length co16 : Value).ownBlock ∧ (some k_ ≠ (.slice Ao21 t122.length co21 : Value).ownBlock ∧ (some k_ ≠ (.slice Ao24 t125.length co24 : Value).ownBlock ∧ (some k_ ≠ (.slice Ao25 t128.length co25 : Value).ownBlock ∧ some k_ ≠ (.slice Ao26 t131.length co26 : Value).ownBlock)))))) ∧ some k_ ≠ (.slice Ao76 t150.length co76 : Value).ownBlock) ∧ some k_ ≠ (.slice Ao79 t153.length co79 : Value).ownBlock) ∧ some k_ ≠ (.slice Ao83 t156.length co83 : Value).ownBlock) ∧ some k_ ≠ (.slice Ao84 t159.length co84 : Value).ownBlock) ∧ some k_ ≠ (.slice Ao85 t162.length co85 : Value).ownBlock)) (n := t107.length) (c := co14) ?_).2.2; exact (by (with_reducible repeat (first | apply Kd.S_alloc | apply Kd.S_drewN | apply Kd.S_drew)); exact (Kd.S_mono (Kd.S_far (p := ⟨gb167, 4, none⟩) (Kd.S_far (p := ⟨gb167, 3, none⟩) (Kd.S_far (p := ⟨gb167, 2, none⟩) (Kd.S_far (p := ⟨gb167, 1, none⟩) (Kd.S_far (p := ⟨gb167, 0, none⟩) (Kd.S_types HO_119001.out BK167.out (by decide)) (fun _ hk => hk.2) (.slice Ao79 t153.length co79)) (fun _ hk => hk.2) (.slice Ao83 t156.length co83)) (fun _ hk => hk.2) (.slice Ao84 t159.length co84)) (fun _ hk => hk.2) (.slice Ao85 t162.length co85)) (fun _ hk => hk.2) (.int .i64 t165)) (fun _ h_ => h_.1)))); (case side12 => exact (Kd.S_reads' HO_119001.out).2.1); (case side13 => refine (Kd.R_reads' (e := 3) (base := w.heap.size) (ok := fun k_ => (((((some k_ ≠ (.slice Ao12 t104.length co12 : Value).ownBlock ∧ (some k_ ≠ (.slice Ao16 t113.length co16 : Value).ownBlock ∧ (some k_ ≠ (.slice Ao21 t122.length co21 : Value).ownBlock ∧ (some k_ ≠ (.slice Ao25 t128.length co25 : Value).ownBlock ∧ some k_ ≠ (.slice Ao26 t131.length co26 : Value).ownBlock)))) ∧ some k_ ≠ (.slice Ao76 t150.length co76 : Value).ownBlock) ∧ some k_ ≠ (.slice Ao79 t153.length co79 : Value).ownBlock) ∧ some k_ ≠ (.slice Ao84 t159.length co84 : Value).ownBlock) ∧ some k_ ≠ (.slice Ao85 t162.length co85 : Value).ownBlock)) (n := t110.length) (c := co15) ?_).2.2; exact (sR (Kd.R_mono (Kd.R_far (p := ⟨gb167, 4, none⟩) (Kd.R_far (p := ⟨gb167, 3, none⟩) (Kd.R_far (p := ⟨gb167, 2, none⟩) (Kd.R_far (p := ⟨gb167, 1, none⟩) (Kd.R_far (p := ⟨gb167, 0, none⟩) (Kd.R_types HO_119002.out BK167.out (by decide)) (fun _ hk => hk.2) (.slice Ao79 t153.length co79)) (fun _ hk => hk.2) (.slice Ao83 t156.length co83)) (fun _ hk => hk.2) (.slice Ao84 t159.length co84)) (fun _ hk => hk.2) (.slice Ao85 t162.length co85)) (fun _ hk => hk.2) (.int .i64 t165)) (fun _ h_ => h_.1)))); (case side14 => exact (Kd.R_reads' HO_119002.out).2.1); (case side15 => refine (Kd.R_reads' (e := 3) (base := w.heap.size) (ok := fun k_ => (((((some k_ ≠ (.slice Ao12 t104.length co12 : Value).ownBlock ∧ (some k_ ≠ (.slice Ao15 t110.length co15 : Value).ownBlock ∧ (some k_ ≠ (.slice Ao21 t122.length co21 : Value).ownBlock ∧ (some k_ ≠ (.slice Ao25 t128.length co25 : Value).ownBlock ∧ some k_ ≠ (.slice Ao26 t131.length co26 : Value).ownBlock)))) ∧ some k_ ≠ (.slice Ao76 t150.length co76 : Value).ownBlock) ∧ some k_ ≠ (.slice Ao79 t153.length co79 : Value).ownBlock) ∧ some k_ ≠ (.slice Ao84 t159.length co84 : Value).ownBlock) ∧ some k_ ≠ (.slice Ao85 t162.length co85 : Value).ownBlock)) (n := t113.length) (c := co16) ?_).2.2; exact (sR (Kd.R_mono (Kd.R_far (p := ⟨gb167, 4, none⟩) (Kd.R_far (p := ⟨gb167, 3, none⟩) (Kd.R_far (p := ⟨gb167, 2, none⟩) (Kd.R_far (p := ⟨gb167, 1, none⟩) (Kd.R_far (p := ⟨gb167, 0, none⟩) (Kd.R_types HO_119003.out BK167.out (by decide)) (fun _ hk => hk.2) (.slice Ao79 t153.length co79)) (fun _ hk => hk.2) (.slice Ao83 t156.length co83)) (fun _ hk => hk.2) (.slice Ao84 t159.length co84)) (fun _ hk => hk.2) (.slice Ao85 t162.length co85)) (fun _ hk => hk.2) (.int .i64 t165)) (fun _ h_ => h_.1)))); (case side16 => exact (Kd.R_reads' HO_119003.out).2.1); rintro e w93 ⟨rfl, hb⟩; refine ⟨_, rfl, ?_⟩; have n0_ := sA (Kd.R_below (sR (Kd.R_mono (Kd.R_far (p := ⟨gb167, 4, none⟩) (Kd.R_far (p := ⟨gb167, 3, none⟩) (Kd.R_far (p := ⟨gb167, 2, none⟩) (Kd.R_far (p := ⟨gb167, 1, none⟩) (Kd.R_far (p := ⟨gb167, 0, none⟩) (Kd.R_types HO_119000.out BK167.out (by decide)) (fun _ hk => hk.2) (.slice Ao79 t153.length co79)) (fun _ hk => hk.2) (.slice Ao83 t156.length co83)) (fun _ hk => hk.2) (.slice Ao84 t159.length co84)) (fun _ hk => hk.2) (.slice Ao85 t162.length co85)) (fun _ hk => hk.2) (.int .i64 t165)) (fun _ h_ => h_.1))) hb); have n1_ := sA (Kd.S_below (by (with_reducible repeat (first | apply Kd.S_alloc | apply Kd.S_drewN | apply Kd.S_drew)); exact (Kd.S_mono (Kd.S_far (p := ⟨gb167, 4, none⟩) (Kd.S_far (p := ⟨gb167, 3, none⟩) (Kd.S_far (p := ⟨gb167, 2, none⟩) (Kd.S_far (p := ⟨gb167, 1, none⟩) (Kd.S_far (p := ⟨gb167, 0, none⟩) (Kd.S_types HO_119001.out BK167.out (by decide)) (fun _ hk => hk.2) (.slice Ao79 t153.length co79)) (fun _ hk => hk.2) (.slice Ao83 t156.length co83)) (fun _ hk => hk.2) (.slice Ao84 t159.length co84)) (fun _ hk => hk.2) (.slice Ao85 t162.length co85)) (fun _ hk => hk.2) (.int .i64 t165)) (fun _ h_ => h_.1))) hb); have n2_ := sA (Kd.R_below (sR (Kd.R_mono (Kd.R_far (p := ⟨gb167, 4, none⟩) (Kd.R_far (p := ⟨gb167, 3, none⟩) (Kd.R_far (p := ⟨gb167, 2, none⟩) (Kd.R_far (p := ⟨gb167, 1, none⟩) (Kd.R_far (p := ⟨gb167, 0, none⟩) (Kd.R_types HO_119002.out BK167.out (by decide)) (fun _ hk => hk.2) (.slice Ao79 t153.length co79)) (fun _ hk => hk.2) (.slice Ao83 t156.length co83)) (fun _ hk => hk.2) (.slice Ao84 t159.length co84)) (fun _ hk => hk.2) (.slice Ao85 t162.length co85)) (fun _ hk => hk.2) (.int .i64 t165)) (fun _ h_ => h_.1))) hb); have n3_ := sA (Kd.R_below (sR (Kd.R_mono (Kd.R_far (p := ⟨gb167, 4, none⟩) (Kd.R_far (p := ⟨gb167, 3, none⟩) (Kd.R_far (p := ⟨gb167, 2, none⟩) (Kd.R_far (p := ⟨gb167, 1, none⟩) (Kd.R_far (p := ⟨gb167, 0, none⟩) (Kd.R_types HO_119003.out BK167.out (by decide)) (fun _ hk => hk.2) (.slice Ao79 t153.length co79)) (fun _ hk => hk.2) (.slice Ao83 t156.length co83)) (fun _ hk => hk.2) (.slice Ao84 t159.length co84)) (fun _ hk => hk.2) (.slice Ao85 t162.length co85)) (fun _ hk => hk.2) (.int .i64 t165)) (fun _ h_ => h_.1))) hb); have n4_ := sA (Kd.R_below (sR (Kd.R_mono (Kd.R_far (p := ⟨gb167, 4, none⟩) (Kd.R_far (p := ⟨gb167, 3, none⟩) (Kd.R_far (p := ⟨gb167, 2, none⟩) (Kd.R_far (p := ⟨gb167, 1, none⟩) (Kd.R_far (p := ⟨gb167, 0, none⟩) (Kd.R_types HO_137000.out BK167.out (by decide)) (fun _ hk => hk.2) (.slice Ao79 t153.length co79)) (fun _ hk => hk.2) (.slice Ao83 t156.length co83)) (fun _ hk => hk.2) (.slice Ao84 t159.length co84)) (fun _ hk => hk.2) (.slice Ao85 t162.length co85)) (fun _ hk => hk.2) (.int .i64 t165)) (fun _ h_ => h_.1))) hb); have n5_ := sA (Kd.S_below (by (with_reducible repeat (first | apply Kd.S_alloc | apply Kd.S_drewN | apply Kd.S_drew)); exact (Kd.S_mono (Kd.S_far (p := ⟨gb167, 4, none⟩) (Kd.S_far (p := ⟨gb167, 3, none⟩) (Kd.S_far (p := ⟨gb167, 2, none⟩) (Kd.S_far (p := ⟨gb167, 1, none⟩) (Kd.S_far (p := ⟨gb167, 0, none⟩) (Kd.S_types HO_137001.out BK167.out (by decide)) (fun _ hk => hk.2) (.slice Ao79 t153.length co79)) (fun _ hk => hk.2) (.slice Ao83 t156.length co83)) (fun _ hk => hk.2) (.slice Ao84 t159.length co84)) (fun _ hk => hk.2) (.slice Ao85 t162.length co85)) (fun _ hk => hk.2) (.int .i64 t165)) (fun _ h_ => h_.1))) hb); have n6_ := sA (Kd.R_below (sR (Kd.R_mono (Kd.R_far (p := ⟨gb167, 4, none⟩) (Kd.R_far (p := ⟨gb167, 3, none⟩) (Kd.R_far (p := ⟨gb167, 2, none⟩) (Kd.R_far (p := ⟨gb167, 1, none⟩) (Kd.R_far (p := ⟨gb167, 0, none⟩) (Kd.R_types HO_137002.out BK167.out (by decide)) (fun _ hk => hk.2) (.slice Ao79 t153.length co79)) (fun _ hk => hk.2) (.slice Ao83 t156.length co83)) (fun _ hk => hk.2) (.slice Ao84 t159.length co84)) (fun _ hk => hk.2) (.slice Ao85 t162.length co85)) (fun _ hk => hk.2) (.int .i64 t165)) (fun _ h_ => h_.1))) hb); have n7_ := sA (Kd.R_below (sR (Kd.R_mono (Kd.R_far (p := ⟨gb167, 4, none⟩) (Kd.R_far (p := ⟨gb167, 3, none⟩) (Kd.R_far (p := ⟨gb167, 2, none⟩) (Kd.R_far (p := ⟨gb167, 1, none⟩) (Kd.R_far (p := ⟨gb167, 0, none⟩) (Kd.R_types HO_137003.out BK167.out (by decide)) (fun _ hk => hk.2) (.slice Ao79 t153.length co79)) (fun _ hk => hk.2) (.slice Ao83 t156.length co83)) (fun _ hk => hk.2) (.slice Ao84 t159.length co84)) (fun _ hk => hk.2) (.slice Ao85 t162.length co85)) (fun _ hk => hk.2) (.int .i64 t165)) (fun _ h_ => h_.1))) hb); have n8_ := sA (Kd.R_below (sR (Kd.R_mono (Kd.R_far (p := ⟨gb167, 4, none⟩) (Kd.R_far (p := ⟨gb167, 3, none⟩) (Kd.R_far (p := ⟨gb167, 2, none⟩) (Kd.R_far (p := ⟨gb167, 1, none⟩) (Kd.R_far (p := ⟨gb167, 0, none⟩) (Kd.R_types HO152.out BK167.out (by decide)) (fun _ hk => hk.2) (.slice Ao79 t153.length co79)) (fun _ hk => hk.2) (.slice Ao83 t156.length co83)) (fun _ hk => hk.2) (.slice Ao84 t159.length co84)) (fun _ hk => hk.2) (.slice Ao85 t162.length co85)) (fun _ hk => hk.2) (.int .i64 t165)) (fun _ h_ => h_.1))) hb); have n9_ := sA (Kd.R_below (sR (Kd.R_mono (Kd.R_far (p := ⟨gb167, 4, none⟩) (Kd.R_far (p := ⟨gb167, 3, none⟩) (Kd.R_far (p := ⟨gb167, 2, none⟩) (Kd.R_far (p := ⟨gb167, 1, none⟩) (Kd.R_far (p := ⟨gb167, 0, none⟩) (Kd.R_types HO155.out BK167.out (by decide)) (fun _ hk => hk.2) (.slice Ao79 t153.length co79)) (fun _ hk => hk.2) (.slice Ao83 t156.length co83)) (fun _ hk => hk.2) (.slice Ao84 t159.length co84)) (fun _ hk => hk.2) (.slice Ao85 t162.length co85)) (fun _ hk => hk.2) (.int .i64 t165)) (fun _ h_ => h_.1))) hb); have n10_ := sA (Kd.S_below (by (with_reducible repeat (first | apply Kd.S_alloc | apply Kd.S_drewN | apply Kd.S_drew)); exact (Kd.S_mono (Kd.S_far (p := ⟨gb167, 4, none⟩) (Kd.S_far (p := ⟨gb167, 3, none⟩) (Kd.S_far (p := ⟨gb167, 2, none⟩) (Kd.S_far (p := ⟨gb167, 1, none⟩) (Kd.S_far (p := ⟨gb167, 0, none⟩) (Kd.S_types HO158.out BK167.out (by decide)) (fun _ hk => hk.2) (.slice Ao79 t153.length co79)) (fun _ hk => hk.2) (.slice Ao83 t156.length co83)) (fun _ hk => hk.2) (.slice Ao84 t159.length co84)) (fun _ hk => hk.2) (.slice Ao85 t162.length co85)) (fun _ hk => hk.2) (.int .i64 t165)) (fun _ h_ => h_.1))) hb); have n11_ := sA (Kd.R_below (sR (Kd.R_mono (Kd.R_far (p := ⟨gb167, 4, none⟩) (Kd.R_far (p := ⟨gb167, 3, none⟩) (Kd.R_far (p := ⟨gb167, 2, none⟩) (Kd.R_far (p := ⟨gb167, 1, none⟩) (Kd.R_far (p := ⟨gb167, 0, none⟩) (Kd.R_types HO161.out BK167.out (by decide)) (fun _ hk => hk.2) (.slice Ao79 t153.length co79)) (fun _ hk => hk.2) (.slice Ao83 t156.length co83)) (fun _ hk => hk.2) (.slice Ao84 t159.length co84)) (fun _ hk => hk.2) (.slice Ao85 t162.length co85)) (fun _ hk => hk.2) (.int .i64 t165)) (fun _ h_ => h_.1))) hb); have n12_ := sA (Kd.R_below (sR (Kd.R_mono (Kd.R_far (p := ⟨gb167, 4, none⟩) (Kd.R_far (p := ⟨gb167, 3, none⟩) (Kd.R_far (p := ⟨gb167, 2, none⟩) (Kd.R_far (p := ⟨gb167, 1, none⟩) (Kd.R_far (p := ⟨gb167, 0, none⟩) (Kd.R_types HO164.out BK167.out (by decide)) (fun _ hk => hk.2) (.slice Ao79 t153.length co79)) (fun _ hk => hk.2) (.slice Ao83 t156.length co83)) (fun _ hk => hk.2) (.slice Ao84 t159.length co84)) (fun _ hk => hk.2) (.slice Ao85 t162.length co85)) (fun _ hk => hk.2) (.int .i64 t165)) (fun _ h_ => h_.1))) hb); have n13_ := sA (blk_below (g := gb118) (o := .cells #[.slice Ao12 t104.length co12, .slice Ao14 t107.length co14, .slice Ao15 t110.length co15, .slice Ao16 t113.length co16, .int .i64 t116] 25 (0, 0)) (by (with_reducible repeat first | apply blk_drewN | apply blk_drew | apply blk_alloc); refine blk_far ?_ NB118_167.out _; (with_reducible repeat first | apply blk_drewN | apply blk_drew | apply blk_alloc); refine blk_far ?_ NB118_167.out _; (with_reducible repeat first | apply blk_drewN | apply blk_drew | apply blk_alloc); refine blk_far ?_ NB118_167.out _; (with_reducible repeat first | apply blk_drewN | apply blk_drew | apply blk_alloc); refine blk_far ?_ NB118_167.out _; (with_reducible repeat first | apply blk_drewN | apply blk_drew | apply blk_alloc); refine blk_far ?_ NB118_167.out _; (with_reducible repeat first | apply blk_drewN | apply blk_drew | apply blk_alloc); exact BK118.out) hb); have n14_ := sA (blk_below (g := gb136) (o := .cells #[.slice Ao21 t122.length co21, .slice Ao24 t125.length co24, .slice Ao25 t128.length co25, .slice Ao26 t131.length co26, .int .i64 t134] 25 (0, 0)) (by (with_reducible repeat first | apply blk_drewN | apply blk_drew | apply blk_alloc); refine blk_far ?_ NB136_167.out _; (with_reducible repeat first | apply blk_drewN | apply blk_drew | apply blk_alloc); refine blk_far ?_ NB136_167.out _; (with_reducible repeat first | apply blk_drewN | apply blk_drew | apply blk_alloc); refine blk_far ?_ NB136_167.out _; (with_reducible repeat first | apply blk_drewN | apply blk_drew | apply blk_alloc); refine blk_far ?_ NB136_167.out _; (with_reducible repeat first | apply blk_drewN | apply blk_drew | apply blk_alloc); refine blk_far ?_ NB136_167.out _; (with_reducible repeat first | apply blk_drewN | apply blk_drew | apply blk_alloc); exact BK136.out) hb); have n15_ := sA (blk_below (g := gb167) (o := .cells #[.slice Ao79 t153.length co79, .slice Ao83 t156.length co83, .slice Ao84 t159.length co84, .slice Ao85 t162.length co85, .int .i64 t165] 25 (0, 0)) (by (with_reducible repeat first | apply blk_drewN | apply blk_drew | apply blk_alloc); refine blk_put (cs := #[.slice Ao79 t153.length co79, .slice Ao83 t156.length co83, .slice Ao84 t159.length co84, .slice Ao85 t162.length co85, .int .i64 0]) ?_ 4 _ rfl; (with_reducible repeat first | apply blk_drewN | apply blk_drew | apply blk_alloc); refine blk_put (cs := #[.slice Ao79 t153.length co79, .slice Ao83 t156.length co83, .slice Ao84 t159.length co84, .slice none 0 0, .int .i64 0]) ?_ 3 _ rfl; (with_reducible repeat first | apply blk_drewN | apply blk_drew | apply blk_alloc); refine blk_put (cs := #[.slice Ao79 t153.length co79, .slice Ao83 t156.length co83, .slice none 0 0, .slice none 0 0, .int .i64 0]) ?_ 2 _ rfl; (with_reducible repeat first | apply blk_drewN | apply blk_drew | apply blk_alloc); refine blk_put (cs := #[.slice Ao79 t153.length co79, .slice none 0 0, .slice none 0 0, .slice none 0 0, .int .i64 0]) ?_ 1 _ rfl; (with_reducible repeat first | apply blk_drewN | apply blk_drew | apply blk_alloc); refine blk_put (cs := #[.slice none 0 0, .slice none 0 0, .slice none 0 0, .slice none 0 0, .int .i64 0]) ?_ 0 _ rfl; (with_reducible repeat first | apply blk_drewN | apply blk_drew | apply blk_alloc); exact BK167.out) hb); have n16_ := sA (below_step (by repeat (first | (with_reducible first | exact HB.out | apply sLA | apply sLN | apply sLD | refine sLS ?_ (Aside0.out (by assumption))) | exact HB.out)) hb); clear HO_119000; clear HO_119001; clear HO_119002; clear HO_119003; clear HO_137000; clear HO_137001; clear HO_137002; clear HO_137003; clear HO152; clear HO155; clear HO158; clear HO161; clear HO164; clear BK118; clear BK136; clear BK167; clear HB; have HO_119000 := n0_; have HO_119001 := n1_; have HO_119002 := n2_; have HO_119003 := n3_; have HO_137000 := n4_; have HO_137001 := n5_; have HO_137002 := n6_; have HO_137003 := n7_; have HO152 := n8_; have HO155 := n9_; have HO158 := n10_; have HO161 := n11_; have HO164 := n12_; have BK118 := n13_; have BK136 := n14_; have BK167 := n15_; have HB := n16_; clear n0_ n1_ n2_ n3_ n4_ n5_ n6_ n7_ n8_ n9_ n10_ n11_ n12_ n13_ n14_ n15_ n16_; (try clear hb); (try clear hb2); (try clear hk); (try clear hi)))
             go_meet
             case rel => exact ⟨_, ((t166 != t117)), (by first | rfl | (simp; done) | (simp [*]; done)), H', ⟨by have := HJ6.out; have := HJ41.out; first | omega | exact Nat.le_refl _⟩, ⟨sR (Kd.R_mono HO_119000.out (fun _ hk => ⟨hk.1.1.1.1.1, ⟨hk.1.1.1.1.2.1, ⟨hk.1.1.1.1.2.2.1, ⟨hk.1.1.1.1.2.2.2.1, ⟨hk.1.1.1.1.2.2.2.2, ⟨hk.1.1.2, ⟨hk.1.2, hk.2⟩⟩⟩⟩⟩⟩⟩))⟩, ⟨by (with_reducible repeat (first | apply Kd.S_alloc | apply Kd.S_drewN | apply Kd.S_drew)); exact Kd.S_mono HO_119001.out (fun _ hk => ⟨hk.1.1.1.1.1.1, ⟨hk.1.1.1.1.1.2.1, ⟨hk.1.1.1.1.1.2.2.1, ⟨hk.1.1.1.1.1.2.2.2.1, ⟨hk.1.1.1.1.1.2.2.2.2.1, ⟨hk.1.1.1.1.1.2.2.2.2.2.1, ⟨hk.1.1.1.1.1.2.2.2.2.2.2, ⟨hk.1.1.1.2, ⟨hk.1.1.2, ⟨hk.1.2, hk.2⟩⟩⟩⟩⟩⟩⟩⟩⟩⟩)⟩, ⟨sR (Kd.R_mono HO_119002.out (fun _ hk => ⟨hk.1.1.1.1.1, ⟨hk.1.1.1.1.2.1, ⟨hk.1.1.1.1.2.2.1, ⟨hk.1.1.1.1.2.2.2.1, ⟨hk.1.1.1.1.2.2.2.2, ⟨hk.1.1.2, ⟨hk.1.2, hk.2⟩⟩⟩⟩⟩⟩⟩))⟩, ⟨sR (Kd.R_mono HO_119003.out (fun _ hk => ⟨hk.1.1.1.1.1, ⟨hk.1.1.1.1.2.1, ⟨hk.1.1.1.1.2.2.1, ⟨hk.1.1.1.1.2.2.2.1, ⟨hk.1.1.1.1.2.2.2.2, ⟨hk.1.1.2, ⟨hk.1.2, hk.2⟩⟩⟩⟩⟩⟩⟩))⟩, ⟨sR (Kd.R_mono HO_137000.out (fun _ hk => ⟨hk.1.1.1.1.1, ⟨hk.1.1.1.1.2.1, ⟨hk.1.1.1.1.2.2.1, ⟨hk.1.1.1.1.2.2.2.1, ⟨hk.1.1.1.1.2.2.2.2, ⟨hk.1.1.2, ⟨hk.1.2, hk.2⟩⟩⟩⟩⟩⟩⟩))⟩, ⟨by (with_reducible repeat (first | apply Kd.S_alloc | apply Kd.S_drewN | apply Kd.S_drew)); exact Kd.S_mono HO_137001.out (fun _ hk => ⟨hk.1.1.1.1.1.1, ⟨hk.1.1.1.1.1.2.1, ⟨hk.1.1.1.1.1.2.2.1, ⟨hk.1.1.1.1.1.2.2.2.1, ⟨hk.1.1.1.1.1.2.2.2.2.1, ⟨hk.1.1.1.1.1.2.2.2.2.2.1, ⟨hk.1.1.1.1.1.2.2.2.2.2.2, ⟨hk.1.1.1.2, ⟨hk.1.1.2, ⟨hk.1.2, hk.2⟩⟩⟩⟩⟩⟩⟩⟩⟩⟩)⟩, ⟨sR (Kd.R_mono HO_137002.out (fun _ hk => ⟨hk.1.1.1.1.1, ⟨hk.1.1.1.1.2.1, ⟨hk.1.1.1.1.2.2.1, ⟨hk.1.1.1.1.2.2.2.1, ⟨hk.1.1.1.1.2.2.2.2, ⟨hk.1.1.2, ⟨hk.1.2, hk.2⟩⟩⟩⟩⟩⟩⟩))⟩, ⟨sR (Kd.R_mono HO_137003.out (fun _ hk => ⟨hk.1.1.1.1.1, ⟨hk.1.1.1.1.2.1, ⟨hk.1.1.1.1.2.2.1, ⟨hk.1.1.1.1.2.2.2.1, ⟨hk.1.1.1.1.2.2.2.2, ⟨hk.1.1.2, ⟨hk.1.2, hk.2⟩⟩⟩⟩⟩⟩⟩))⟩, ⟨sR (Kd.R_mono HO155.out (fun _ hk => ⟨hk.1.1.1.1.1.1.2, ⟨hk.1.1.1.1.1.2, ⟨hk.1.1.1.1.2, ⟨hk.1.1.1.2, ⟨hk.1.1.2, ⟨hk.1.2, ⟨hk.1.1.1.1.1.1.1.1, hk.1.1.1.1.1.1.1.2⟩⟩⟩⟩⟩⟩⟩))⟩, ⟨by (with_reducible repeat (first | apply Kd.S_alloc | apply Kd.S_drewN | apply Kd.S_drew)); exact Kd.S_mono HO158.out (fun _ hk => ⟨hk.1.1.1.1.1.1.1.1.2, ⟨hk.1.1.1.1.1.1.1.2, ⟨hk.1.1.1.1.1.1.2, ⟨hk.1.1.1.1.1.2, ⟨hk.1.1.1.1.2, ⟨hk.1.1.1.2, ⟨hk.1.1.2, ⟨hk.1.2, ⟨hk.1.1.1.1.1.1.1.1.1.1, ⟨hk.1.1.1.1.1.1.1.1.1.2.1, hk.1.1.1.1.1.1.1.1.1.2.2⟩⟩⟩⟩⟩⟩⟩⟩⟩⟩)⟩, ⟨sR (Kd.R_mono HO161.out (fun _ hk => ⟨hk.1.1.1.1.1.1.2, ⟨hk.1.1.1.1.1.2, ⟨hk.1.1.1.1.2, ⟨hk.1.1.1.2, ⟨hk.1.1.2, ⟨hk.1.2, ⟨hk.1.1.1.1.1.1.1.1, hk.1.1.1.1.1.1.1.2⟩⟩⟩⟩⟩⟩⟩))⟩, ⟨sR (Kd.R_mono HO164.out (fun _ hk => ⟨hk.1.1.1.1.1.1.2, ⟨hk.1.1.1.1.1.2, ⟨hk.1.1.1.1.2, ⟨hk.1.1.1.2, ⟨hk.1.1.2, ⟨hk.1.2, ⟨hk.1.1.1.1.1.1.1.1, hk.1.1.1.1.1.1.1.2⟩⟩⟩⟩⟩⟩⟩))⟩, ⟨sB BK118.out⟩, ⟨sB BK136.out⟩, ⟨sB BK167.out⟩, ⟨by repeat (first | (with_reducible first | exact HB.out | apply sLA | apply sLN | apply sLD | refine sLS ?_ GE118.out | refine sLS ?_ GE136.out | refine sLS ?_ GE167.out) | exact HB.out)⟩⟩
            ·replace c87 := Bool.eq_false_iff.mpr c87
             subst c87
             have H1 : (laws_FnExactNewTurns.j2 kj41 t145 true t146 t125 t147 t148 t134) = some r := by rw [if_neg (show ¬ (false = true) by decide)] at H; exact H
             clear H
             have H := H1
             clear H1
             have H' := sA H
             clear H
             have hnb94 := NB167_118.out
             have hnc94 := NB118_167.out
             have hnb95 := NB167_136.out
             have hnc95 := NB136_167.out
             have hcz96_0 : w78.cell? ⟨gb167, 0, none⟩ = some (.slice none 0 0) := sC BK167 0 rfl
             have hcz96_1 : w78.cell? ⟨gb167, 1, none⟩ = some (.slice none 0 0) := sC BK167 1 rfl
             have hcz96_2 : w78.cell? ⟨gb167, 2, none⟩ = some (.slice none 0 0) := sC BK167 2 rfl
             have hcz96_3 : w78.cell? ⟨gb167, 3, none⟩ = some (.slice none 0 0) := sC BK167 3 rfl
             have hcz96_4 : w78.cell? ⟨gb167, 4, none⟩ = some (.int .i64 0) := sC BK167 4 rfl
             have hfz96_0 := blk_frozen BK167.out 0
             have hfz96_1 := blk_frozen BK167.out 1
             have hfz96_2 := blk_frozen BK167.out 2
             have hfz96_3 := blk_frozen BK167.out 3
             have hfz96_4 := blk_frozen BK167.out 4
             have hnb97 := NB118_136.out
             have hnc97 := NB136_118.out
             have hcz98_0 : w78.cell? ⟨gb118, 0, none⟩ = some (.slice Ao12 t104.length co12) := sC BK118 0 rfl
             have hcz98_1 : w78.cell? ⟨gb118, 1, none⟩ = some (.slice Ao14 t107.length co14) := sC BK118 1 rfl
             have hcz98_2 : w78.cell? ⟨gb118, 2, none⟩ = some (.slice Ao15 t110.length co15) := sC BK118 2 rfl
             have hcz98_3 : w78.cell? ⟨gb118, 3, none⟩ = some (.slice Ao16 t113.length co16) := sC BK118 3 rfl
             have hcz98_4 : w78.cell? ⟨gb118, 4, none⟩ = some (.int .i64 t116) := sC BK118 4 rfl
             have hfz98_0 := blk_frozen BK118.out 0
             have hfz98_1 := blk_frozen BK118.out 1
             have hfz98_2 := blk_frozen BK118.out 2
             have hfz98_3 := blk_frozen BK118.out 3
             have hfz98_4 := blk_frozen BK118.out 4
             go_wp2_with (first | ((with_reducible refine gate_callee (f := 8) rfl ?_); refine goesL_ (some 78) rfl rfl Try.func8 (by kernel_rfl) rfl #[.agg #[.slice Ao79 t153.length co79, .slice Ao83 t156.length co83, .slice Ao84 t159.length co84, .slice Ao85 t162.length co85, .int .i64 t165], .agg #[.slice Ao12 t104.length co12, .slice Ao14 t107.length co14, .slice Ao15 t110.length co15, .slice Ao16 t113.length co16, .int .i64 t116]] rfl (by (try simp only [List.map_toArray, List.map_cons, List.map_nil]); first | done | rfl | (simp only [List.length_drop, List.length_take]; rfl)) ?_; (with_reducible refine (laws_eqTurns.calls kj41 _ _ t153 _ _ t156 _ _ t159 _ _ t162 t165 _ _ t104 _ _ t107 _ _ t110 _ _ t113 t116 false _ ?side1 ?side2 ?side3 ?side4 ?side5 ?side6 ?side7 ?side8 ?side9 ?side10 ?side11 ?side12 ?side13 ?side14 ?side15 ?side16 A86.out).mono ?_); (case side1 => refine (Kd.R_reads' (e := 3) (base := w.heap.size) (ok := fun k_ => ((((((((some k_ ≠ (.slice Ao84 t159.length co84 : Value).ownBlock ∧ some k_ ≠ (.slice Ao85 t162.length co85 : Value).ownBlock) ∧ some k_ ≠ (.slice Ao12 t104.length co12 : Value).ownBlock) ∧ some k_ ≠ (.slice Ao15 t110.length co15 : Value).ownBlock) ∧ some k_ ≠ (.slice Ao16 t113.length co16 : Value).ownBlock) ∧ some k_ ≠ (.slice Ao21 t122.length co21 : Value).ownBlock) ∧ some k_ ≠ (.slice Ao25 t128.length co25 : Value).ownBlock) ∧ some k_ ≠ (.slice Ao26 t131.length co26 : Value).ownBlock) ∧ some k_ ≠ (.slice Ao76 t150.length co76 : Value).ownBlock)) (n := t153.length) (c := co79) ?_).2.2; exact (sR (Kd.R_mono (Kd.R_far (p := ⟨gb167, 4, none⟩) (Kd.R_far (p := ⟨gb167, 3, none⟩) (Kd.R_far (p := ⟨gb167, 2, none⟩) (Kd.R_far (p := ⟨gb167, 1, none⟩) (Kd.R_far (p := ⟨gb167, 0, none⟩) (Kd.R_types HO155.out BK167.out (by decide)) (fun _ hk => hk.2) (.slice Ao79 t153.length co79)) (fun _ hk => hk.2) (.slice Ao83 t156.length co83)) (fun _ hk => hk.2) (.slice Ao84 t159.length co84)) (fun _ hk => hk.2) (.slice Ao85 t162.length co85)) (fun _ hk => hk.2) (.int .i64 t165)) (fun _ h_ => h_.1)))); (case side2 => exact (Kd.R_reads' HO155.out).2.1); (case side3 => refine (Kd.S_reads' (e := 22) (base := w.heap.size) (ok := fun k_ => ((((((((((some k_ ≠ (.slice Ao79 t153.length co79 : Value).ownBlock ∧ (some k_ ≠ (.slice Ao84 t159.length co84 : Value).ownBlock ∧ some k_ ≠ (.slice Ao85 t162.length co85 : Value).ownBlock)) ∧ some k_ ≠ (.slice Ao12 t104.length co12 : Value).ownBlock) ∧ some k_ ≠ (.slice Ao14 t107.length co14 : Value).ownBlock) ∧ some k_ ≠ (.slice Ao15 t110.length co15 : Value).ownBlock) ∧ some k_ ≠ (.slice Ao16 t113.length co16 : Value).ownBlock) ∧ some k_ ≠ (.slice Ao21 t122.length co21 : Value).ownBlock) ∧ some k_ ≠ (.slice Ao24 t125.length co24 : Value).ownBlock) ∧ some k_ ≠ (.slice Ao25 t128.length co25 : Value).ownBlock) ∧ some k_ ≠ (.slice Ao26 t131.length co26 : Value).ownBlock) ∧ some k_ ≠ (.slice Ao76 t150.length co76 : Value).ownBlock)) (n := t156.length) (c := co83) ?_).2.2; exact (by (with_reducible repeat (first | apply Kd.S_alloc | apply Kd.S_drewN | apply Kd.S_drew)); exact (Kd.S_mono (Kd.S_far (p := ⟨gb167, 4, none⟩) (Kd.S_far (p := ⟨gb167, 3, none⟩) (Kd.S_far (p := ⟨gb167, 2, none⟩) (Kd.S_far (p := ⟨gb167, 1, none⟩) (Kd.S_far (p := ⟨gb167, 0, none⟩) (Kd.S_types HO158.out BK167.out (by decide)) (fun _ hk => hk.2) (.slice Ao79 t153.length co79)) (fun _ hk => hk.2) (.slice Ao83 t156.length co83)) (fun _ hk => hk.2) (.slice Ao84 t159.length co84)) (fun _ hk => hk.2) (.slice Ao85 t162.length co85)) (fun _ hk => hk.2) (.int .i64 t165)) (fun _ h_ => h_.1)))); (case side4 => exact (Kd.S_reads' HO158.out).2.1); (case side5 => refine (Kd.R_reads' (e := 3) (base := w.heap.size) (ok := fun k_ => ((((((((some k_ ≠ (.slice Ao79 t153.length co79 : Value).ownBlock ∧ some k_ ≠ (.slice Ao85 t162.length co85 : Value).ownBlock) ∧ some k_ ≠ (.slice Ao12 t104.length co12 : Value).ownBlock) ∧ some k_ ≠ (.slice Ao15 t110.length co15 : Value).ownBlock) ∧ some k_ ≠ (.slice Ao16 t113.length co16 : Value).ownBlock) ∧ some k_ ≠ (.slice Ao21 t122.length co21 : Value).ownBlock) ∧ some k_ ≠ (.slice Ao25 t128.length co25 : Value).ownBlock) ∧ some k_ ≠ (.slice Ao26 t131.length co26 : Value).ownBlock) ∧ some k_ ≠ (.slice Ao76 t150.length co76 : Value).ownBlock)) (n := t159.length) (c := co84) ?_).2.2; exact (sR (Kd.R_mono (Kd.R_far (p := ⟨gb167, 4, none⟩) (Kd.R_far (p := ⟨gb167, 3, none⟩) (Kd.R_far (p := ⟨gb167, 2, none⟩) (Kd.R_far (p := ⟨gb167, 1, none⟩) (Kd.R_far (p := ⟨gb167, 0, none⟩) (Kd.R_types HO161.out BK167.out (by decide)) (fun _ hk => hk.2) (.slice Ao79 t153.length co79)) (fun _ hk => hk.2) (.slice Ao83 t156.length co83)) (fun _ hk => hk.2) (.slice Ao84 t159.length co84)) (fun _ hk => hk.2) (.slice Ao85 t162.length co85)) (fun _ hk => hk.2) (.int .i64 t165)) (fun _ h_ => h_.1)))); (case side6 => exact (Kd.R_reads' HO161.out).2.1); (case side7 => refine (Kd.R_reads' (e := 3) (base := w.heap.size) (ok := fun k_ => ((((((((some k_ ≠ (.slice Ao79 t153.length co79 : Value).ownBlock ∧ some k_ ≠ (.slice Ao84 t159.length co84 : Value).ownBlock) ∧ some k_ ≠ (.slice Ao12 t104.length co12 : Value).ownBlock) ∧ some k_ ≠ (.slice Ao15 t110.length co15 : Value).ownBlock) ∧ some k_ ≠ (.slice Ao16 t113.length co16 : Value).ownBlock) ∧ some k_ ≠ (.slice Ao21 t122.length co21 : Value).ownBlock) ∧ some k_ ≠ (.slice Ao25 t128.length co25 : Value).ownBlock) ∧ some k_ ≠ (.slice Ao26 t131.length co26 : Value).ownBlock) ∧ some k_ ≠ (.slice Ao76 t150.length co76 : Value).ownBlock)) (n := t162.length) (c := co85) ?_).2.2; exact (sR (Kd.R_mono (Kd.R_far (p := ⟨gb167, 4, none⟩) (Kd.R_far (p := ⟨gb167, 3, none⟩) (Kd.R_far (p := ⟨gb167, 2, none⟩) (Kd.R_far (p := ⟨gb167, 1, none⟩) (Kd.R_far (p := ⟨gb167, 0, none⟩) (Kd.R_types HO164.out BK167.out (by decide)) (fun _ hk => hk.2) (.slice Ao79 t153.length co79)) (fun _ hk => hk.2) (.slice Ao83 t156.length co83)) (fun _ hk => hk.2) (.slice Ao84 t159.length co84)) (fun _ hk => hk.2) (.slice Ao85 t162.length co85)) (fun _ hk => hk.2) (.int .i64 t165)) (fun _ h_ => h_.1)))); (case side8 => exact (Kd.R_reads' HO164.out).2.1); (case side9 => refine (Kd.R_reads' (e := 3) (base := w.heap.size) (ok := fun k_ => (((((some k_ ≠ (.slice Ao15 t110.length co15 : Value).ownBlock ∧ (some k_ ≠ (.slice Ao16 t113.length co16 : Value).ownBlock ∧ (some k_ ≠ (.slice Ao21 t122.length co21 : Value).ownBlock ∧ (some k_ ≠ (.slice Ao25 t128.length co25 : Value).ownBlock ∧ some k_ ≠ (.slice Ao26 t131.length co26 : Value).ownBlock)))) ∧ some k_ ≠ (.slice Ao76 t150.length co76 : Value).ownBlock) ∧ some k_ ≠ (.slice Ao79 t153.length co79 : Value).ownBlock) ∧ some k_ ≠ (.slice Ao84 t159.length co84 : Value).ownBlock) ∧ some k_ ≠ (.slice Ao85 t162.length co85 : Value).ownBlock)) (n := t104.length) (c := co12) ?_).2.2; exact (sR (Kd.R_mono (Kd.R_far (p := ⟨gb167, 4, none⟩) (Kd.R_far (p := ⟨gb167, 3, none⟩) (Kd.R_far (p := ⟨gb167, 2, none⟩) (Kd.R_far (p := ⟨gb167, 1, none⟩) (Kd.R_far (p := ⟨gb167, 0, none⟩) (Kd.R_types HO_119000.out BK167.out (by decide)) (fun _ hk => hk.2) (.slice Ao79 t153.length co79)) (fun _ hk => hk.2) (.slice Ao83 t156.length co83)) (fun _ hk => hk.2) (.slice Ao84 t159.length co84)) (fun _ hk => hk.2) (.slice Ao85 t162.length co85)) (fun _ hk => hk.2) (.int .i64 t165)) (fun _ h_ => h_.1)))); (case side10 => exact (Kd.R_reads' HO_119000.out).2.1); (case side11 => refine (Kd.S_reads' (e := 22) (base := w.heap.size) (ok := fun k_ => ((((((some k_ ≠ (.slice Ao12 t104.length co12 : Value).ownBlock ∧ (some k_ ≠ (.slice Ao15 t110.length co15 : Value).ownBlock ∧ (some k_ ≠ (.slice Ao16 t113.length co16 : Value).ownBlock ∧ (some k_ ≠ (.slice Ao21 t122.length co21 : Value).ownBlock ∧ (some k_ ≠ (.slice Ao24 t125.length co24 : Value).ownBlock ∧ (some k_ ≠ (.slice Ao25 t128.length co25 : Value).ownBlock ∧ some k_ ≠ (.slice Ao26 t131.length co26 : Value).ownBlock)))))) ∧ some k_ ≠ (.slice Ao76 t150.length co76 : Value).ownBlock) ∧ some k_ ≠ (.slice Ao79 t153.length co79 : Value).ownBlock) ∧ some k_ ≠ (.slice Ao83 t156.length co83 : Value).ownBlock) ∧ some k_ ≠ (.slice Ao84 t159.length co84 : Value).ownBlock) ∧ some k_ ≠ (.slice Ao85 t162.length co85 : Value).ownBlock)) (n := t107.length) (c := co14) ?_).2.2; exact (by (with_reducible repeat (first | apply Kd.S_alloc | apply Kd.S_drewN | apply Kd.S_drew)); exact (Kd.S_mono (Kd.S_far (p := ⟨gb167, 4, none⟩) (Kd.S_far (p := ⟨gb167, 3, none⟩) (Kd.S_far (p := ⟨gb167, 2, none⟩) (Kd.S_far (p := ⟨gb167, 1, none⟩) (Kd.S_far (p := ⟨gb167, 0, none⟩) (Kd.S_types HO_119001.out BK167.out (by decide)) (fun _ hk => hk.2) (.slice Ao79 t153.length co79)) (fun _ hk => hk.2) (.slice Ao83 t156.length co83)) (fun _ hk => hk.2) (.slice Ao84 t159.length co84)) (fun _ hk => hk.2) (.slice Ao85 t162.length co85)) (fun _ hk => hk.2) (.int .i64 t165)) (fun _ h_ => h_.1)))); (case side12 => exact (Kd.S_reads' HO_119001.out).2.1); (case side13 => refine (Kd.R_reads' (e := 3) (base := w.heap.size) (ok := fun k_ => (((((some k_ ≠ (.slice Ao12 t104.length co12 : Value).ownBlock ∧ (some k_ ≠ (.slice Ao16 t113.length co16 : Value).ownBlock ∧ (some k_ ≠ (.slice Ao21 t122.length co21 : Value).ownBlock ∧ (some k_ ≠ (.slice Ao25 t128.length co25 : Value).ownBlock ∧ some k_ ≠ (.slice Ao26 t131.length co26 : Value).ownBlock)))) ∧ some k_ ≠ (.slice Ao76 t150.length co76 : Value).ownBlock) ∧ some k_ ≠ (.slice Ao79 t153.length co79 : Value).ownBlock) ∧ some k_ ≠ (.slice Ao84 t159.length co84 : Value).ownBlock) ∧ some k_ ≠ (.slice Ao85 t162.length co85 : Value).ownBlock)) (n := t110.length) (c := co15) ?_).2.2; exact (sR (Kd.R_mono (Kd.R_far (p := ⟨gb167, 4, none⟩) (Kd.R_far (p := ⟨gb167, 3, none⟩) (Kd.R_far (p := ⟨gb167, 2, none⟩) (Kd.R_far (p := ⟨gb167, 1, none⟩) (Kd.R_far (p := ⟨gb167, 0, none⟩) (Kd.R_types HO_119002.out BK167.out (by decide)) (fun _ hk => hk.2) (.slice Ao79 t153.length co79)) (fun _ hk => hk.2) (.slice Ao83 t156.length co83)) (fun _ hk => hk.2) (.slice Ao84 t159.length co84)) (fun _ hk => hk.2) (.slice Ao85 t162.length co85)) (fun _ hk => hk.2) (.int .i64 t165)) (fun _ h_ => h_.1)))); (case side14 => exact (Kd.R_reads' HO_119002.out).2.1); (case side15 => refine (Kd.R_reads' (e := 3) (base := w.heap.size) (ok := fun k_ => (((((some k_ ≠ (.slice Ao12 t104.length co12 : Value).ownBlock ∧ (some k_ ≠ (.slice Ao15 t110.length co15 : Value).ownBlock ∧ (some k_ ≠ (.slice Ao21 t122.length co21 : Value).ownBlock ∧ (some k_ ≠ (.slice Ao25 t128.length co25 : Value).ownBlock ∧ some k_ ≠ (.slice Ao26 t131.length co26 : Value).ownBlock)))) ∧ some k_ ≠ (.slice Ao76 t150.length co76 : Value).ownBlock) ∧ some k_ ≠ (.slice Ao79 t153.length co79 : Value).ownBlock) ∧ some k_ ≠ (.slice Ao84 t159.length co84 : Value).ownBlock) ∧ some k_ ≠ (.slice Ao85 t162.length co85 : Value).ownBlock)) (n := t113.length) (c := co16) ?_).2.2; exact (sR (Kd.R_mono (Kd.R_far (p := ⟨gb167, 4, none⟩) (Kd.R_far (p := ⟨gb167, 3, none⟩) (Kd.R_far (p := ⟨gb167, 2, none⟩) (Kd.R_far (p := ⟨gb167, 1, none⟩) (Kd.R_far (p := ⟨gb167, 0, none⟩) (Kd.R_types HO_119003.out BK167.out (by decide)) (fun _ hk => hk.2) (.slice Ao79 t153.length co79)) (fun _ hk => hk.2) (.slice Ao83 t156.length co83)) (fun _ hk => hk.2) (.slice Ao84 t159.length co84)) (fun _ hk => hk.2) (.slice Ao85 t162.length co85)) (fun _ hk => hk.2) (.int .i64 t165)) (fun _ h_ => h_.1)))); (case side16 => exact (Kd.R_reads' HO_119003.out).2.1); rintro e w99 ⟨rfl, hb⟩; refine ⟨_, rfl, ?_⟩; have n0_ := sA (Kd.R_below (sR (Kd.R_mono (Kd.R_far (p := ⟨gb167, 4, none⟩) (Kd.R_far (p := ⟨gb167, 3, none⟩) (Kd.R_far (p := ⟨gb167, 2, none⟩) (Kd.R_far (p := ⟨gb167, 1, none⟩) (Kd.R_far (p := ⟨gb167, 0, none⟩) (Kd.R_types HO_119000.out BK167.out (by decide)) (fun _ hk => hk.2) (.slice Ao79 t153.length co79)) (fun _ hk => hk.2) (.slice Ao83 t156.length co83)) (fun _ hk => hk.2) (.slice Ao84 t159.length co84)) (fun _ hk => hk.2) (.slice Ao85 t162.length co85)) (fun _ hk => hk.2) (.int .i64 t165)) (fun _ h_ => h_.1))) hb); have n1_ := sA (Kd.S_below (by (with_reducible repeat (first | apply Kd.S_alloc | apply Kd.S_drewN | apply Kd.S_drew)); exact (Kd.S_mono (Kd.S_far (p := ⟨gb167, 4, none⟩) (Kd.S_far (p := ⟨gb167, 3, none⟩) (Kd.S_far (p := ⟨gb167, 2, none⟩) (Kd.S_far (p := ⟨gb167, 1, none⟩) (Kd.S_far (p := ⟨gb167, 0, none⟩) (Kd.S_types HO_119001.out BK167.out (by decide)) (fun _ hk => hk.2) (.slice Ao79 t153.length co79)) (fun _ hk => hk.2) (.slice Ao83 t156.length co83)) (fun _ hk => hk.2) (.slice Ao84 t159.length co84)) (fun _ hk => hk.2) (.slice Ao85 t162.length co85)) (fun _ hk => hk.2) (.int .i64 t165)) (fun _ h_ => h_.1))) hb); have n2_ := sA (Kd.R_below (sR (Kd.R_mono (Kd.R_far (p := ⟨gb167, 4, none⟩) (Kd.R_far (p := ⟨gb167, 3, none⟩) (Kd.R_far (p := ⟨gb167, 2, none⟩) (Kd.R_far (p := ⟨gb167, 1, none⟩) (Kd.R_far (p := ⟨gb167, 0, none⟩) (Kd.R_types HO_119002.out BK167.out (by decide)) (fun _ hk => hk.2) (.slice Ao79 t153.length co79)) (fun _ hk => hk.2) (.slice Ao83 t156.length co83)) (fun _ hk => hk.2) (.slice Ao84 t159.length co84)) (fun _ hk => hk.2) (.slice Ao85 t162.length co85)) (fun _ hk => hk.2) (.int .i64 t165)) (fun _ h_ => h_.1))) hb); have n3_ := sA (Kd.R_below (sR (Kd.R_mono (Kd.R_far (p := ⟨gb167, 4, none⟩) (Kd.R_far (p := ⟨gb167, 3, none⟩) (Kd.R_far (p := ⟨gb167, 2, none⟩) (Kd.R_far (p := ⟨gb167, 1, none⟩) (Kd.R_far (p := ⟨gb167, 0, none⟩) (Kd.R_types HO_119003.out BK167.out (by decide)) (fun _ hk => hk.2) (.slice Ao79 t153.length co79)) (fun _ hk => hk.2) (.slice Ao83 t156.length co83)) (fun _ hk => hk.2) (.slice Ao84 t159.length co84)) (fun _ hk => hk.2) (.slice Ao85 t162.length co85)) (fun _ hk => hk.2) (.int .i64 t165)) (fun _ h_ => h_.1))) hb); have n4_ := sA (Kd.R_below (sR (Kd.R_mono (Kd.R_far (p := ⟨gb167, 4, none⟩) (Kd.R_far (p := ⟨gb167, 3, none⟩) (Kd.R_far (p := ⟨gb167, 2, none⟩) (Kd.R_far (p := ⟨gb167, 1, none⟩) (Kd.R_far (p := ⟨gb167, 0, none⟩) (Kd.R_types HO_137000.out BK167.out (by decide)) (fun _ hk => hk.2) (.slice Ao79 t153.length co79)) (fun _ hk => hk.2) (.slice Ao83 t156.length co83)) (fun _ hk => hk.2) (.slice Ao84 t159.length co84)) (fun _ hk => hk.2) (.slice Ao85 t162.length co85)) (fun _ hk => hk.2) (.int .i64 t165)) (fun _ h_ => h_.1))) hb); have n5_ := sA (Kd.S_below (by (with_reducible repeat (first | apply Kd.S_alloc | apply Kd.S_drewN | apply Kd.S_drew)); exact (Kd.S_mono (Kd.S_far (p := ⟨gb167, 4, none⟩) (Kd.S_far (p := ⟨gb167, 3, none⟩) (Kd.S_far (p := ⟨gb167, 2, none⟩) (Kd.S_far (p := ⟨gb167, 1, none⟩) (Kd.S_far (p := ⟨gb167, 0, none⟩) (Kd.S_types HO_137001.out BK167.out (by decide)) (fun _ hk => hk.2) (.slice Ao79 t153.length co79)) (fun _ hk => hk.2) (.slice Ao83 t156.length co83)) (fun _ hk => hk.2) (.slice Ao84 t159.length co84)) (fun _ hk => hk.2) (.slice Ao85 t162.length co85)) (fun _ hk => hk.2) (.int .i64 t165)) (fun _ h_ => h_.1))) hb); have n6_ := sA (Kd.R_below (sR (Kd.R_mono (Kd.R_far (p := ⟨gb167, 4, none⟩) (Kd.R_far (p := ⟨gb167, 3, none⟩) (Kd.R_far (p := ⟨gb167, 2, none⟩) (Kd.R_far (p := ⟨gb167, 1, none⟩) (Kd.R_far (p := ⟨gb167, 0, none⟩) (Kd.R_types HO_137002.out BK167.out (by decide)) (fun _ hk => hk.2) (.slice Ao79 t153.length co79)) (fun _ hk => hk.2) (.slice Ao83 t156.length co83)) (fun _ hk => hk.2) (.slice Ao84 t159.length co84)) (fun _ hk => hk.2) (.slice Ao85 t162.length co85)) (fun _ hk => hk.2) (.int .i64 t165)) (fun _ h_ => h_.1))) hb); have n7_ := sA (Kd.R_below (sR (Kd.R_mono (Kd.R_far (p := ⟨gb167, 4, none⟩) (Kd.R_far (p := ⟨gb167, 3, none⟩) (Kd.R_far (p := ⟨gb167, 2, none⟩) (Kd.R_far (p := ⟨gb167, 1, none⟩) (Kd.R_far (p := ⟨gb167, 0, none⟩) (Kd.R_types HO_137003.out BK167.out (by decide)) (fun _ hk => hk.2) (.slice Ao79 t153.length co79)) (fun _ hk => hk.2) (.slice Ao83 t156.length co83)) (fun _ hk => hk.2) (.slice Ao84 t159.length co84)) (fun _ hk => hk.2) (.slice Ao85 t162.length co85)) (fun _ hk => hk.2) (.int .i64 t165)) (fun _ h_ => h_.1))) hb); have n8_ := sA (Kd.R_below (sR (Kd.R_mono (Kd.R_far (p := ⟨gb167, 4, none⟩) (Kd.R_far (p := ⟨gb167, 3, none⟩) (Kd.R_far (p := ⟨gb167, 2, none⟩) (Kd.R_far (p := ⟨gb167, 1, none⟩) (Kd.R_far (p := ⟨gb167, 0, none⟩) (Kd.R_types HO152.out BK167.out (by decide)) (fun _ hk => hk.2) (.slice Ao79 t153.length co79)) (fun _ hk => hk.2) (.slice Ao83 t156.length co83)) (fun _ hk => hk.2) (.slice Ao84 t159.length co84)) (fun _ hk => hk.2) (.slice Ao85 t162.length co85)) (fun _ hk => hk.2) (.int .i64 t165)) (fun _ h_ => h_.1))) hb); have n9_ := sA (Kd.R_below (sR (Kd.R_mono (Kd.R_far (p := ⟨gb167, 4, none⟩) (Kd.R_far (p := ⟨gb167, 3, none⟩) (Kd.R_far (p := ⟨gb167, 2, none⟩) (Kd.R_far (p := ⟨gb167, 1, none⟩) (Kd.R_far (p := ⟨gb167, 0, none⟩) (Kd.R_types HO155.out BK167.out (by decide)) (fun _ hk => hk.2) (.slice Ao79 t153.length co79)) (fun _ hk => hk.2) (.slice Ao83 t156.length co83)) (fun _ hk => hk.2) (.slice Ao84 t159.length co84)) (fun _ hk => hk.2) (.slice Ao85 t162.length co85)) (fun _ hk => hk.2) (.int .i64 t165)) (fun _ h_ => h_.1))) hb); have n10_ := sA (Kd.S_below (by (with_reducible repeat (first | apply Kd.S_alloc | apply Kd.S_drewN | apply Kd.S_drew)); exact (Kd.S_mono (Kd.S_far (p := ⟨gb167, 4, none⟩) (Kd.S_far (p := ⟨gb167, 3, none⟩) (Kd.S_far (p := ⟨gb167, 2, none⟩) (Kd.S_far (p := ⟨gb167, 1, none⟩) (Kd.S_far (p := ⟨gb167, 0, none⟩) (Kd.S_types HO158.out BK167.out (by decide)) (fun _ hk => hk.2) (.slice Ao79 t153.length co79)) (fun _ hk => hk.2) (.slice Ao83 t156.length co83)) (fun _ hk => hk.2) (.slice Ao84 t159.length co84)) (fun _ hk => hk.2) (.slice Ao85 t162.length co85)) (fun _ hk => hk.2) (.int .i64 t165)) (fun _ h_ => h_.1))) hb); have n11_ := sA (Kd.R_below (sR (Kd.R_mono (Kd.R_far (p := ⟨gb167, 4, none⟩) (Kd.R_far (p := ⟨gb167, 3, none⟩) (Kd.R_far (p := ⟨gb167, 2, none⟩) (Kd.R_far (p := ⟨gb167, 1, none⟩) (Kd.R_far (p := ⟨gb167, 0, none⟩) (Kd.R_types HO161.out BK167.out (by decide)) (fun _ hk => hk.2) (.slice Ao79 t153.length co79)) (fun _ hk => hk.2) (.slice Ao83 t156.length co83)) (fun _ hk => hk.2) (.slice Ao84 t159.length co84)) (fun _ hk => hk.2) (.slice Ao85 t162.length co85)) (fun _ hk => hk.2) (.int .i64 t165)) (fun _ h_ => h_.1))) hb); have n12_ := sA (Kd.R_below (sR (Kd.R_mono (Kd.R_far (p := ⟨gb167, 4, none⟩) (Kd.R_far (p := ⟨gb167, 3, none⟩) (Kd.R_far (p := ⟨gb167, 2, none⟩) (Kd.R_far (p := ⟨gb167, 1, none⟩) (Kd.R_far (p := ⟨gb167, 0, none⟩) (Kd.R_types HO164.out BK167.out (by decide)) (fun _ hk => hk.2) (.slice Ao79 t153.length co79)) (fun _ hk => hk.2) (.slice Ao83 t156.length co83)) (fun _ hk => hk.2) (.slice Ao84 t159.length co84)) (fun _ hk => hk.2) (.slice Ao85 t162.length co85)) (fun _ hk => hk.2) (.int .i64 t165)) (fun _ h_ => h_.1))) hb); have n13_ := sA (blk_below (g := gb118) (o := .cells #[.slice Ao12 t104.length co12, .slice Ao14 t107.length co14, .slice Ao15 t110.length co15, .slice Ao16 t113.length co16, .int .i64 t116] 25 (0, 0)) (by (with_reducible repeat first | apply blk_drewN | apply blk_drew | apply blk_alloc); refine blk_far ?_ NB118_167.out _; (with_reducible repeat first | apply blk_drewN | apply blk_drew | apply blk_alloc); refine blk_far ?_ NB118_167.out _; (with_reducible repeat first | apply blk_drewN | apply blk_drew | apply blk_alloc); refine blk_far ?_ NB118_167.out _; (with_reducible repeat first | apply blk_drewN | apply blk_drew | apply blk_alloc); refine blk_far ?_ NB118_167.out _; (with_reducible repeat first | apply blk_drewN | apply blk_drew | apply blk_alloc); refine blk_far ?_ NB118_167.out _; (with_reducible repeat first | apply blk_drewN | apply blk_drew | apply blk_alloc); exact BK118.out) hb); have n14_ := sA (blk_below (g := gb136) (o := .cells #[.slice Ao21 t122.length co21, .slice Ao24 t125.length co24, .slice Ao25 t128.length co25, .slice Ao26 t131.length co26, .int .i64 t134] 25 (0, 0)) (by (with_reducible repeat first | apply blk_drewN | apply blk_drew | apply blk_alloc); refine blk_far ?_ NB136_167.out _; (with_reducible repeat first | apply blk_drewN | apply blk_drew | apply blk_alloc); refine blk_far ?_ NB136_167.out _; (with_reducible repeat first | apply blk_drewN | apply blk_drew | apply blk_alloc); refine blk_far ?_ NB136_167.out _; (with_reducible repeat first | apply blk_drewN | apply blk_drew | apply blk_alloc); refine blk_far ?_ NB136_167.out _; (with_reducible repeat first | apply blk_drewN | apply blk_drew | apply blk_alloc); refine blk_far ?_ NB136_167.out _; (with_reducible repeat first | apply blk_drewN | apply blk_drew | apply blk_alloc); exact BK136.out) hb); have n15_ := sA (blk_below (g := gb167) (o := .cells #[.slice Ao79 t153.length co79, .slice Ao83 t156.length co83, .slice Ao84 t159.length co84, .slice Ao85 t162.length co85, .int .i64 t165] 25 (0, 0)) (by (with_reducible repeat first | apply blk_drewN | apply blk_drew | apply blk_alloc); refine blk_put (cs := #[.slice Ao79 t153.length co79, .slice Ao83 t156.length co83, .slice Ao84 t159.length co84, .slice Ao85 t162.length co85, .int .i64 0]) ?_ 4 _ rfl; (with_reducible repeat first | apply blk_drewN | apply blk_drew | apply blk_alloc); refine blk_put (cs := #[.slice Ao79 t153.length co79, .slice Ao83 t156.length co83, .slice Ao84 t159.length co84, .slice none 0 0, .int .i64 0]) ?_ 3 _ rfl; (with_reducible repeat first | apply blk_drewN | apply blk_drew | apply blk_alloc); refine blk_put (cs := #[.slice Ao79 t153.length co79, .slice Ao83 t156.length co83, .slice none 0 0, .slice none 0 0, .int .i64 0]) ?_ 2 _ rfl; (with_reducible repeat first | apply blk_drewN | apply blk_drew | apply blk_alloc); refine blk_put (cs := #[.slice Ao79 t153.length co79, .slice none 0 0, .slice none 0 0, .slice none 0 0, .int .i64 0]) ?_ 1 _ rfl; (with_reducible repeat first | apply blk_drewN | apply blk_drew | apply blk_alloc); refine blk_put (cs := #[.slice none 0 0, .slice none 0 0, .slice none 0 0, .slice none 0 0, .int .i64 0]) ?_ 0 _ rfl; (with_reducible repeat first | apply blk_drewN | apply blk_drew | apply blk_alloc); exact BK167.out) hb); have n16_ := sA (below_step (by repeat (first | (with_reducible first | exact HB.out | apply sLA | apply sLN | apply sLD | refine sLS ?_ (Aside0.out (by assumption))) | exact HB.out)) hb); clear HO_119000; clear HO_119001; clear HO_119002; clear HO_119003; clear HO_137000; clear HO_137001; clear HO_137002; clear HO_137003; clear HO152; clear HO155; clear HO158; clear HO161; clear HO164; clear BK118; clear BK136; clear BK167; clear HB; have HO_119000 := n0_; have HO_119001 := n1_; have HO_119002 := n2_; have HO_119003 := n3_; have HO_137000 := n4_; have HO_137001 := n5_; have HO_137002 := n6_; have HO_137003 := n7_; have HO152 := n8_; have HO155 := n9_; have HO158 := n10_; have HO161 := n11_; have HO164 := n12_; have BK118 := n13_; have BK136 := n14_; have BK167 := n15_; have HB := n16_; clear n0_ n1_ n2_ n3_ n4_ n5_ n6_ n7_ n8_ n9_ n10_ n11_ n12_ n13_ n14_ n15_ n16_; (try clear hb); (try clear hb2); (try clear hk); (try clear hi)))
             go_meet
             case rel => exact ⟨_, (true), (by first | rfl | (simp; done) | (simp [*]; done)), H', ⟨by have := HJ6.out; have := HJ41.out; first | omega | exact Nat.le_refl _⟩, ⟨sR (Kd.R_mono HO_119000.out (fun _ hk => ⟨hk.1.1.1.1.1, ⟨hk.1.1.1.1.2.1, ⟨hk.1.1.1.1.2.2.1, ⟨hk.1.1.1.1.2.2.2.1, ⟨hk.1.1.1.1.2.2.2.2, ⟨hk.1.1.2, ⟨hk.1.2, hk.2⟩⟩⟩⟩⟩⟩⟩))⟩, ⟨by (with_reducible repeat (first | apply Kd.S_alloc | apply Kd.S_drewN | apply Kd.S_drew)); exact Kd.S_mono HO_119001.out (fun _ hk => ⟨hk.1.1.1.1.1.1, ⟨hk.1.1.1.1.1.2.1, ⟨hk.1.1.1.1.1.2.2.1, ⟨hk.1.1.1.1.1.2.2.2.1, ⟨hk.1.1.1.1.1.2.2.2.2.1, ⟨hk.1.1.1.1.1.2.2.2.2.2.1, ⟨hk.1.1.1.1.1.2.2.2.2.2.2, ⟨hk.1.1.1.2, ⟨hk.1.1.2, ⟨hk.1.2, hk.2⟩⟩⟩⟩⟩⟩⟩⟩⟩⟩)⟩, ⟨sR (Kd.R_mono HO_119002.out (fun _ hk => ⟨hk.1.1.1.1.1, ⟨hk.1.1.1.1.2.1, ⟨hk.1.1.1.1.2.2.1, ⟨hk.1.1.1.1.2.2.2.1, ⟨hk.1.1.1.1.2.2.2.2, ⟨hk.1.1.2, ⟨hk.1.2, hk.2⟩⟩⟩⟩⟩⟩⟩))⟩, ⟨sR (Kd.R_mono HO_119003.out (fun _ hk => ⟨hk.1.1.1.1.1, ⟨hk.1.1.1.1.2.1, ⟨hk.1.1.1.1.2.2.1, ⟨hk.1.1.1.1.2.2.2.1, ⟨hk.1.1.1.1.2.2.2.2, ⟨hk.1.1.2, ⟨hk.1.2, hk.2⟩⟩⟩⟩⟩⟩⟩))⟩, ⟨sR (Kd.R_mono HO_137000.out (fun _ hk => ⟨hk.1.1.1.1.1, ⟨hk.1.1.1.1.2.1, ⟨hk.1.1.1.1.2.2.1, ⟨hk.1.1.1.1.2.2.2.1, ⟨hk.1.1.1.1.2.2.2.2, ⟨hk.1.1.2, ⟨hk.1.2, hk.2⟩⟩⟩⟩⟩⟩⟩))⟩, ⟨by (with_reducible repeat (first | apply Kd.S_alloc | apply Kd.S_drewN | apply Kd.S_drew)); exact Kd.S_mono HO_137001.out (fun _ hk => ⟨hk.1.1.1.1.1.1, ⟨hk.1.1.1.1.1.2.1, ⟨hk.1.1.1.1.1.2.2.1, ⟨hk.1.1.1.1.1.2.2.2.1, ⟨hk.1.1.1.1.1.2.2.2.2.1, ⟨hk.1.1.1.1.1.2.2.2.2.2.1, ⟨hk.1.1.1.1.1.2.2.2.2.2.2, ⟨hk.1.1.1.2, ⟨hk.1.1.2, ⟨hk.1.2, hk.2⟩⟩⟩⟩⟩⟩⟩⟩⟩⟩)⟩, ⟨sR (Kd.R_mono HO_137002.out (fun _ hk => ⟨hk.1.1.1.1.1, ⟨hk.1.1.1.1.2.1, ⟨hk.1.1.1.1.2.2.1, ⟨hk.1.1.1.1.2.2.2.1, ⟨hk.1.1.1.1.2.2.2.2, ⟨hk.1.1.2, ⟨hk.1.2, hk.2⟩⟩⟩⟩⟩⟩⟩))⟩, ⟨sR (Kd.R_mono HO_137003.out (fun _ hk => ⟨hk.1.1.1.1.1, ⟨hk.1.1.1.1.2.1, ⟨hk.1.1.1.1.2.2.1, ⟨hk.1.1.1.1.2.2.2.1, ⟨hk.1.1.1.1.2.2.2.2, ⟨hk.1.1.2, ⟨hk.1.2, hk.2⟩⟩⟩⟩⟩⟩⟩))⟩, ⟨sR (Kd.R_mono HO155.out (fun _ hk => ⟨hk.1.1.1.1.1.1.2, ⟨hk.1.1.1.1.1.2, ⟨hk.1.1.1.1.2, ⟨hk.1.1.1.2, ⟨hk.1.1.2, ⟨hk.1.2, ⟨hk.1.1.1.1.1.1.1.1, hk.1.1.1.1.1.1.1.2⟩⟩⟩⟩⟩⟩⟩))⟩, ⟨by (with_reducible repeat (first | apply Kd.S_alloc | apply Kd.S_drewN | apply Kd.S_drew)); exact Kd.S_mono HO158.out (fun _ hk => ⟨hk.1.1.1.1.1.1.1.1.2, ⟨hk.1.1.1.1.1.1.1.2, ⟨hk.1.1.1.1.1.1.2, ⟨hk.1.1.1.1.1.2, ⟨hk.1.1.1.1.2, ⟨hk.1.1.1.2, ⟨hk.1.1.2, ⟨hk.1.2, ⟨hk.1.1.1.1.1.1.1.1.1.1, ⟨hk.1.1.1.1.1.1.1.1.1.2.1, hk.1.1.1.1.1.1.1.1.1.2.2⟩⟩⟩⟩⟩⟩⟩⟩⟩⟩)⟩, ⟨sR (Kd.R_mono HO161.out (fun _ hk => ⟨hk.1.1.1.1.1.1.2, ⟨hk.1.1.1.1.1.2, ⟨hk.1.1.1.1.2, ⟨hk.1.1.1.2, ⟨hk.1.1.2, ⟨hk.1.2, ⟨hk.1.1.1.1.1.1.1.1, hk.1.1.1.1.1.1.1.2⟩⟩⟩⟩⟩⟩⟩))⟩, ⟨sR (Kd.R_mono HO164.out (fun _ hk => ⟨hk.1.1.1.1.1.1.2, ⟨hk.1.1.1.1.1.2, ⟨hk.1.1.1.1.2, ⟨hk.1.1.1.2, ⟨hk.1.1.2, ⟨hk.1.2, ⟨hk.1.1.1.1.1.1.1.1, hk.1.1.1.1.1.1.1.2⟩⟩⟩⟩⟩⟩⟩))⟩, ⟨sB BK118.out⟩, ⟨sB BK136.out⟩, ⟨sB BK167.out⟩, ⟨by repeat (first | (with_reducible first | exact HB.out | apply sLA | apply sLN | apply sLD | refine sLS ?_ GE118.out | refine sLS ?_ GE136.out | refine sLS ?_ GE167.out) | exact HB.out)⟩⟩
           case rest =>
            clear HC69
            try clear c1
            try clear c2
            try clear c2b0
            try clear c2b1
            try clear p2
            try clear c3
            try clear c4
            try clear c5
            try clear c6
            try clear c7
            try clear c8
            try clear c9
            try clear c10
            try clear c11
            try clear c12
            try clear c22
            try clear c28
            try clear c29
            try clear c33
            try clear c37
            try clear c40
            try clear c46
            try clear c46b0
            try clear c48
            try clear c49
            try clear c53
            try clear c57
            try clear c60
            try clear c60b0
            try clear c61
            try clear c66
            try clear c66b0
            try clear c66b1
            try clear c70
            try clear c80
            try clear c81
            try clear c87
            try clear c88
            try clear c89
            try clear c91
            try clear c94
            try clear c95
            try clear c97
            try clear hcz13_0
            try clear hcz13_1
            try clear hcz13_2
            try clear hcz13_3
            try clear hcz13_4
            try clear hcz23_0
            try clear hcz23_1
            try clear hcz23_2
            try clear hcz23_3
            try clear hcz23_4
            try clear hcz30_0
            try clear hcz30_1
            try clear hcz30_2
            try clear hcz30_3
            try clear hcz30_4
            try clear hcz31_0
            try clear hcz31_1
            try clear hcz31_2
            try clear hcz31_3
            try clear hcz31_4
            try clear hcz34_0
            try clear hcz34_1
            try clear hcz34_2
            try clear hcz34_3
            try clear hcz34_4
            try clear hcz35_0
            try clear hcz35_1
            try clear hcz35_2
            try clear hcz35_3
            try clear hcz35_4
            try clear hcz50_0
            try clear hcz50_1
            try clear hcz50_2
            try clear hcz50_3
            try clear hcz50_4
            try clear hcz51_0
            try clear hcz51_1
            try clear hcz51_2
            try clear hcz51_3
            try clear hcz51_4
            try clear hcz54_0
            try clear hcz54_1
            try clear hcz54_2
            try clear hcz54_3
            try clear hcz54_4
            try clear hcz55_0
            try clear hcz55_1
            try clear hcz55_2
            try clear hcz55_3
            try clear hcz55_4
            try clear hcz62_0
            try clear hcz62_1
            try clear hcz62_2
            try clear hcz62_3
            try clear hcz62_4
            try clear hcz64_0
            try clear hcz64_1
            try clear hcz64_2
            try clear hcz64_3
            try clear hcz64_4
            try clear hcz71_0
            try clear hcz71_1
            try clear hcz71_2
            try clear hcz71_3
            try clear hcz71_4
            try clear hcz73_0
            try clear hcz73_1
            try clear hcz73_2
            try clear hcz73_3
            try clear hcz73_4
            try clear hcz82_0
            try clear hcz82_1
            try clear hcz82_2
            try clear hcz82_3
            try clear hcz82_4
            try clear hcz90_0
            try clear hcz90_1
            try clear hcz90_2
            try clear hcz90_3
            try clear hcz90_4
            try clear hcz92_0
            try clear hcz92_1
            try clear hcz92_2
            try clear hcz92_3
            try clear hcz92_4
            try clear hcz96_0
            try clear hcz96_1
            try clear hcz96_2
            try clear hcz96_3
            try clear hcz96_4
            try clear hcz98_0
            try clear hcz98_1
            try clear hcz98_2
            try clear hcz98_3
            try clear hcz98_4
            try clear hfz13_0
            try clear hfz13_1
            try clear hfz13_2
            try clear hfz13_3
            try clear hfz13_4
            try clear hfz23_0
            try clear hfz23_1
            try clear hfz23_2
            try clear hfz23_3
            try clear hfz23_4
            try clear hfz30_0
            try clear hfz30_1
            try clear hfz30_2
            try clear hfz30_3
            try clear hfz30_4
            try clear hfz31_0
            try clear hfz31_1
            try clear hfz31_2
            try clear hfz31_3
            try clear hfz31_4
            try clear hfz34_0
            try clear hfz34_1
            try clear hfz34_2
            try clear hfz34_3
            try clear hfz34_4
            try clear hfz35_0
            try clear hfz35_1
            try clear hfz35_2
            try clear hfz35_3
            try clear hfz35_4
            try clear hfz50_0
            try clear hfz50_1
            try clear hfz50_2
            try clear hfz50_3
            try clear hfz50_4
            try clear hfz51_0
            try clear hfz51_1
            try clear hfz51_2
            try clear hfz51_3
            try clear hfz51_4
            try clear hfz54_0
            try clear hfz54_1
            try clear hfz54_2
            try clear hfz54_3
            try clear hfz54_4
            try clear hfz55_0
            try clear hfz55_1
            try clear hfz55_2
            try clear hfz55_3
            try clear hfz55_4
            try clear hfz62_0
            try clear hfz62_1
            try clear hfz62_2
            try clear hfz62_3
            try clear hfz62_4
            try clear hfz64_0
            try clear hfz64_1
            try clear hfz64_2
            try clear hfz64_3
            try clear hfz64_4
            try clear hfz71_0
            try clear hfz71_1
            try clear hfz71_2
            try clear hfz71_3
            try clear hfz71_4
            try clear hfz73_0
            try clear hfz73_1
            try clear hfz73_2
            try clear hfz73_3
            try clear hfz73_4
            try clear hfz82_0
            try clear hfz82_1
            try clear hfz82_2
            try clear hfz82_3
            try clear hfz82_4
            try clear hfz90_0
            try clear hfz90_1
            try clear hfz90_2
            try clear hfz90_3
            try clear hfz90_4
            try clear hfz92_0
            try clear hfz92_1
            try clear hfz92_2
            try clear hfz92_3
            try clear hfz92_4
            try clear hfz96_0
            try clear hfz96_1
            try clear hfz96_2
            try clear hfz96_3
            try clear hfz96_4
            try clear hfz98_0
            try clear hfz98_1
            try clear hfz98_2
            try clear hfz98_3
            try clear hfz98_4
            try clear p2
            obtain ⟨kq, x84_68, rfl, HA, HJ68, HO_119000, HO_119001, HO_119002, HO_119003, HO_137000, HO_137001, HO_137002, HO_137003, HO_168000, HO_168001, HO_168002, HO_168003, BK118, BK136, BK167, HB⟩ := hcut
            have hl137000_68 := (Kd.R_reads' HO_137000.out).1
            rw [hl137000_68] at HO_137000
            (try simp only [hl137000_68])
            (try simp only [hl137000_68] at BK118)
            (try simp only [hl137000_68] at BK136)
            (try simp only [hl137000_68] at BK167)
            (try simp only [hl137000_68] at HO_119000)
            (try simp only [hl137000_68] at HO_119001)
            (try simp only [hl137000_68] at HO_119002)
            (try simp only [hl137000_68] at HO_119003)
            (try simp only [hl137000_68] at HO_137001)
            (try simp only [hl137000_68] at HO_137002)
            (try simp only [hl137000_68] at HO_137003)
            (try simp only [hl137000_68] at HO_168000)
            (try simp only [hl137000_68] at HO_168001)
            (try simp only [hl137000_68] at HO_168002)
            (try simp only [hl137000_68] at HO_168003)
            have hl137002_68 := (Kd.R_reads' HO_137002.out).1
            rw [hl137002_68] at HO_137002
            (try simp only [hl137002_68])
            (try simp only [hl137002_68] at BK118)
            (try simp only [hl137002_68] at BK136)
            (try simp only [hl137002_68] at BK167)
            (try simp only [hl137002_68] at HO_119000)
            (try simp only [hl137002_68] at HO_119001)
            (try simp only [hl137002_68] at HO_119002)
            (try simp only [hl137002_68] at HO_119003)
            (try simp only [hl137002_68] at HO_137000)
            (try simp only [hl137002_68] at HO_137001)
            (try simp only [hl137002_68] at HO_137003)
            (try simp only [hl137002_68] at HO_168000)
            (try simp only [hl137002_68] at HO_168001)
            (try simp only [hl137002_68] at HO_168002)
            (try simp only [hl137002_68] at HO_168003)
            have hl137003_68 := (Kd.R_reads' HO_137003.out).1
            rw [hl137003_68] at HO_137003
            (try simp only [hl137003_68])
            (try simp only [hl137003_68] at BK118)
            (try simp only [hl137003_68] at BK136)
            (try simp only [hl137003_68] at BK167)
            (try simp only [hl137003_68] at HO_119000)
            (try simp only [hl137003_68] at HO_119001)
            (try simp only [hl137003_68] at HO_119002)
            (try simp only [hl137003_68] at HO_119003)
            (try simp only [hl137003_68] at HO_137000)
            (try simp only [hl137003_68] at HO_137001)
            (try simp only [hl137003_68] at HO_137002)
            (try simp only [hl137003_68] at HO_168000)
            (try simp only [hl137003_68] at HO_168001)
            (try simp only [hl137003_68] at HO_168002)
            (try simp only [hl137003_68] at HO_168003)
            cases kq with
            | zero => exact absurd HA.out (by simp [laws_FnExactNewTurns.j2])
            | succ kj68 =>
             have H := HA.out
             clear HA
             simp only [laws_FnExactNewTurns.j2] at H
             by_cases c100 : x84_68 = true
             ·subst c100
              have H1 : (some false) = some r := by rw [if_pos rfl] at H; exact H
              clear H
              have H := H1
              clear H1
              exact absurd (hr_.symm.trans (Option.some.inj H).symm) (by decide)
             ·replace c100 := Bool.eq_false_iff.mpr c100
              subst c100
              have H1 : ((laws_heldTurns.f kj68 t146 t125 t147 t148 t134 1).bind fun t169 => (if t169 < 0 then (some false) else (if t169 = t145 then (some true) else (some false)))) = some r := by rw [if_neg (show ¬ (false = true) by decide)] at H; exact H
              clear H
              have H := H1
              clear H1
              replace H := Option.bind_eq_some_iff.mp H
              obtain ⟨t169, A1010, H⟩ := H
              replace H : (if t169 < 0 then (some false) else (if t169 = t145 then (some true) else (some false))) = some r := H
              have A101 := sA A1010
              clear A1010
              by_cases c102 : t169 < 0
              ·rw [if_pos c102] at H
               have c102b0 : decide (t169 < 0) = true := decide_eq_true c102
               clear c102
               exact absurd (hr_.symm.trans (Option.some.inj H).symm) (by decide)
              ·rw [if_neg c102] at H
               have c102b0 : decide (t169 < 0) = false := decide_eq_false c102
               clear c102
               by_cases c107 : t169 = t145
               ·rw [if_pos c107] at H
                have c107b0 : (t169 == t145) = true := beq_iff_eq.mpr c107
                have c107b1 : (t169 != t145) = false := bne_eq_false_iff_eq.mpr c107
                clear c107
                obtain rfl := Option.some.inj H
                have hnb108 := NB136_118.out
                have hnc108 := NB118_136.out
                have hnb109 := NB136_167.out
                have hnc109 := NB167_136.out
                have hcz110_0 : wc.cell? ⟨gb136, 0, none⟩ = some (.slice Ao21 t146.length co21) := sC BK136 0 rfl
                have hcz110_1 : wc.cell? ⟨gb136, 1, none⟩ = some (.slice Ao24 t125.length co24) := sC BK136 1 rfl
                have hcz110_2 : wc.cell? ⟨gb136, 2, none⟩ = some (.slice Ao25 t147.length co25) := sC BK136 2 rfl
                have hcz110_3 : wc.cell? ⟨gb136, 3, none⟩ = some (.slice Ao26 t148.length co26) := sC BK136 3 rfl
                have hcz110_4 : wc.cell? ⟨gb136, 4, none⟩ = some (.int .i64 t134) := sC BK136 4 rfl
                have hfz110_0 := blk_frozen BK136.out 0
                have hfz110_1 := blk_frozen BK136.out 1
                have hfz110_2 := blk_frozen BK136.out 2
                have hfz110_3 := blk_frozen BK136.out 3
                have hfz110_4 := blk_frozen BK136.out 4
                go_wp2_with (first | ((with_reducible refine gate_callee (f := 12) rfl ?_); refine goesL_ (some 87) rfl rfl Try.func12 (by kernel_rfl) rfl #[.agg #[.slice Ao21 t146.length co21, .slice Ao24 t125.length co24, .slice Ao25 t147.length co25, .slice Ao26 t148.length co26, .int .i64 t134], .int .i64 1] rfl (by (try simp only [List.map_toArray, List.map_cons, List.map_nil]); first | done | rfl | (simp only [List.length_drop, List.length_take]; rfl)) ?_; (with_reducible refine (laws_heldTurns.calls kj68 _ _ t146 _ _ t125 _ _ t147 _ _ t148 t134 1 t169 _ ?side1 ?side2 ?side3 ?side4 ?side5 ?side6 ?side7 ?side8 A101.out).mono ?_); (case side1 => repeat (first | exact (Kd.R_reads' HO_137000.out).2.2 | (with_reducible refine Kd.C_alloc ?_ _) | (with_reducible refine Kd.C_drewN ?_ _) | (with_reducible refine Kd.C_drew ?_))); (case side2 => exact (Kd.R_reads' HO_137000.out).2.1); (case side3 => repeat (first | exact (Kd.S_reads' HO_137001.out).2.2 | (with_reducible refine Kd.C_alloc ?_ _) | (with_reducible refine Kd.C_drewN ?_ _) | (with_reducible refine Kd.C_drew ?_))); (case side4 => exact (Kd.S_reads' HO_137001.out).2.1); (case side5 => repeat (first | exact (Kd.R_reads' HO_137002.out).2.2 | (with_reducible refine Kd.C_alloc ?_ _) | (with_reducible refine Kd.C_drewN ?_ _) | (with_reducible refine Kd.C_drew ?_))); (case side6 => exact (Kd.R_reads' HO_137002.out).2.1); (case side7 => repeat (first | exact (Kd.R_reads' HO_137003.out).2.2 | (with_reducible refine Kd.C_alloc ?_ _) | (with_reducible refine Kd.C_drewN ?_ _) | (with_reducible refine Kd.C_drew ?_))); (case side8 => exact (Kd.R_reads' HO_137003.out).2.1); rintro e w111 ⟨rfl, hb⟩; refine ⟨_, rfl, ?_⟩; have n0_ := sA (Kd.R_below (sR HO_119000.out) hb); have n1_ := sA (Kd.S_below (by (with_reducible repeat (first | apply Kd.S_alloc | apply Kd.S_drewN | apply Kd.S_drew)); exact HO_119001.out) hb); have n2_ := sA (Kd.R_below (sR HO_119002.out) hb); have n3_ := sA (Kd.R_below (sR HO_119003.out) hb); have n4_ := sA (Kd.R_below (sR HO_137000.out) hb); have n5_ := sA (Kd.S_below (by (with_reducible repeat (first | apply Kd.S_alloc | apply Kd.S_drewN | apply Kd.S_drew)); exact HO_137001.out) hb); have n6_ := sA (Kd.R_below (sR HO_137002.out) hb); have n7_ := sA (Kd.R_below (sR HO_137003.out) hb); have n8_ := sA (Kd.R_below (sR HO_168000.out) hb); have n9_ := sA (Kd.S_below (by (with_reducible repeat (first | apply Kd.S_alloc | apply Kd.S_drewN | apply Kd.S_drew)); exact HO_168001.out) hb); have n10_ := sA (Kd.R_below (sR HO_168002.out) hb); have n11_ := sA (Kd.R_below (sR HO_168003.out) hb); have n12_ := sA (blk_below (sB BK118.out) hb); have n13_ := sA (blk_below (sB BK136.out) hb); have n14_ := sA (blk_below (sB BK167.out) hb); have n15_ := sA (below_step (by repeat (first | (with_reducible first | exact HB.out | apply sLA | apply sLN | apply sLD | refine sLS ?_ (Aside0.out (by assumption))) | exact HB.out)) hb); clear HO_119000; clear HO_119001; clear HO_119002; clear HO_119003; clear HO_137000; clear HO_137001; clear HO_137002; clear HO_137003; clear HO_168000; clear HO_168001; clear HO_168002; clear HO_168003; clear BK118; clear BK136; clear BK167; clear HB; have HO_119000 := n0_; have HO_119001 := n1_; have HO_119002 := n2_; have HO_119003 := n3_; have HO_137000 := n4_; have HO_137001 := n5_; have HO_137002 := n6_; have HO_137003 := n7_; have HO_168000 := n8_; have HO_168001 := n9_; have HO_168002 := n10_; have HO_168003 := n11_; have BK118 := n12_; have BK136 := n13_; have BK167 := n14_; have HB := n15_; clear n0_ n1_ n2_ n3_ n4_ n5_ n6_ n7_ n8_ n9_ n10_ n11_ n12_ n13_ n14_ n15_; (try clear hb); (try clear hb2); (try clear hk); (try clear hi)))
                go_ret
                exact ⟨by first | rfl | (simp [errW_none, errW_some] <;> rfl) | (simp [*, errW_none, errW_some] <;> rfl), by repeat (first | (with_reducible first | exact HB.out | apply sLA | apply sLN | apply sLD | refine sLS ?_ GE118.out | refine sLS ?_ GE136.out | refine sLS ?_ GE167.out) | exact HB.out)⟩
               ·rw [if_neg c107] at H
                have c107b0 : (t169 == t145) = false := beq_eq_false_iff_ne.mpr c107
                have c107b1 : (t169 != t145) = true := bne_iff_ne.mpr c107
                exact absurd (hr_.symm.trans (Option.some.inj H).symm) (by decide)
          ·rw [if_neg c66] at H
           have c66b0 : (t149 == t145) = false := beq_eq_false_iff_ne.mpr c66
           have c66b1 : (t149 != t145) = true := bne_iff_ne.mpr c66
           exact absurd (hr_.symm.trans (Option.some.inj H).symm) (by decide)
     ·replace c40 := Bool.eq_false_iff.mpr c40
      subst c40
      have H1 : (some false) = some r := by rw [if_neg (show ¬ (false = true) by decide)] at H; exact H
      clear H
      have H := H1
      clear H1
      exact absurd (hr_.symm.trans (Option.some.inj H).symm) (by decide)

end Go.Proofs.Ytpdpdfccgeegaaa.P

/- Reading of arguments by kind: what the row's reader can read is a value of the printed kind. -/
namespace Go.Proofs.Ytpdpdfccgeegaaa.Opn
open Go.RowKit Go.Proofs.YtpdpdfccgeegaaaW.PrintWords

structure Opens {α : Type} (P : Program) (t : TypeId) (d : Kd α) (wf : α → Prop) : Prop where
 out : ∀ {H : Type} (enc : TypeId × Value → H) (W : World) (fuel : Nat) (cs : List Value) (x : DataW H × List MemPlace),
  DataW.trod enc P W 0 (fun _ => true) true fuel t cs = some x → ∃ y, d.K W y cs ∧ wf y

def wfI (x : Int) : Prop := -9223372036854775808 ≤ x ∧ x ≤ 9223372036854775807
def wfB (_ : Bool) : Prop := True
def wfS (x : ByteArray) : Prop := x.size ≤ 9223372036854775807
def wfL {α : Type} (wf : α → Prop) (l : List α) : Prop := l.length ≤ 9223372036854775807 ∧ ∀ x, x ∈ l → wf x

theorem wfI_of {x : Int} (hw : (Lit.int .i64 x).wf = true) : wfI x := by
 simp [Lit.wf] at hw
 exact ⟨by simpa [IntKind.min, IntKind.signed, IntKind.bits] using hw.1, by simpa [IntKind.max, IntKind.signed, IntKind.bits] using hw.2⟩
theorem opens_int {P : Program} {t : TypeId} (h : P.underlying t = some (.int .i64)) : Opens P t (Kd.int .i64) wfI := by
 refine ⟨?_⟩
 intro H enc W fuel cs x hx
 obtain ⟨n, rfl, _, hw⟩ := DataW.trod_int h hx
 exact ⟨n, rfl, wfI_of hw⟩
theorem opens_bool {P : Program} {t : TypeId} (h : P.underlying t = some .bool) : Opens P t Kd.bool wfB := by
 refine ⟨?_⟩
 intro H enc W fuel cs x hx
 obtain ⟨b, rfl, _⟩ := DataW.trod_bool h hx
 exact ⟨b, rfl, trivial⟩
theorem opens_string {P : Program} {t : TypeId} (h : P.underlying t = some .string) : Opens P t Kd.string wfS := by
 refine ⟨?_⟩
 intro H enc W fuel cs x hx
 obtain ⟨b, rfl, _, hs⟩ := DataW.trod_string h hx
 exact ⟨b, rfl, hs⟩

theorem add_add_ (ad : Addr) (m j : Nat) : (ad.add m).add j = ad.add (m + j) := by
 unfold Addr.add
 by_cases hm : m = 0
 ·subst hm; simp
 ·by_cases hj : j = 0
  ·subst hj; simp [hm]
  ·simp [hm, hj, Nat.add_assoc]

theorem opens_slice {P : Program} {t e : TypeId} {α : Type} {d : Kd α} {wf : α → Prop} (h : P.underlying t = some (.slice e)) (hsz : P.cellsOf e = d.sz) (ho : Opens P e d wf) : Opens P t (Kd.slice e d) (wfL wf) := by
 refine ⟨?_⟩
 intro H enc W fuel cs x hx
 rcases DataW.trod_slice h hx with ⟨rfl, _⟩ | ⟨a, len, cap, elems, rest, n, _, rfl, _, _, hl, hm, hlen, hel, _, _⟩
 ·exact ⟨[], ⟨none, 0, rfl, Nat.le_refl _, rfl, by simp, fun hp => absurd hp (by simp)⟩, by simp, fun x hx => by simp at hx⟩
 ·have hm' : len ≤ 9223372036854775807 := by simp only [maxLen] at hm; omega
  have each : ∀ i, i < len → ∃ y c, c.length = d.sz ∧ d.K W y c ∧ wf y ∧ ∀ j u, c[j]? = some u → W.cell? (a.add (i * d.sz + j)) = some u := by
   intro i hi
   have h1 := hel i hi
   rw [List.getElem?_eq_getElem (by omega)] at h1
   obtain ⟨c, hc, hd⟩ := Option.bind_eq_some_iff.1 h1
   obtain ⟨y, hy, hw⟩ := ho.out enc W n c _ hd
   obtain ⟨_, hcl, hcc⟩ := World.cells?_some hc
   refine ⟨y, c, by rw [hcl, hsz], hy, hw, fun j u hu => ?_⟩
   have hj : j < P.cellsOf e := by have := (List.getElem?_eq_some_iff.1 hu).1; omega
   have := hcc j hj
   rw [hu, add_add_, hsz] at this
   exact this
  have build : ∀ k, k ≤ len → ∃ ys : List α, ys.length = k ∧ (∀ y, y ∈ ys → wf y) ∧ ∀ j p, ys[j]? = some p → ∃ c, c.length = d.sz ∧ d.K W p c ∧ ∀ i u, c[i]? = some u → W.cell? (a.add (j * d.sz + i)) = some u := by
   intro k
   induction k with
   | zero => intro _; exact ⟨[], rfl, by simp, by simp⟩
   | succ k ih =>
    intro hk
    obtain ⟨ys, hlys, hw, hy⟩ := ih (by omega)
    obtain ⟨y, c, hcl, hK, hwy, hcell⟩ := each k (by omega)
    refine ⟨ys ++ [y], by simp [hlys], fun z hz => ?_, fun j p hp => ?_⟩
    ·rcases List.mem_append.1 hz with hz | hz
     ·exact hw z hz
     ·rw [List.mem_singleton.1 hz]; exact hwy
    ·rcases Nat.lt_or_ge j ys.length with hj | hj
     ·rw [List.getElem?_append_left hj] at hp
      exact hy j p hp
     ·have hj' : j = ys.length := by
       have := (List.getElem?_eq_some_iff.1 hp).1
       simp at this
       omega
      subst hj'
      have hp' : y = p := by simpa using hp
      subst hp'
      rw [hlys]
      exact ⟨c, hcl, hK, hcell⟩
  obtain ⟨ys, hlys, hw, hy⟩ := build len (Nat.le_refl _)
  subst hlys
  exact ⟨ys, ⟨some a, cap, rfl, hl, rfl, hm', fun _ => ⟨a, rfl, hy⟩⟩, hm', hw⟩

/-- the fields of a struct from an offset on -/
structure OpensF {α : Type} (P : Program) (fs : List Field) (off : Nat) (d : Kd α) (wf : α → Prop) : Prop where
 out : ∀ {H : Type} (enc : TypeId × Value → H) (W : World) (fuel : Nat) (cs : List Value), cs.length = off + d.sz →
  (∀ (i : Nat) (f : Field), fs[i]? = some f → ∃ y, DataW.trod enc P W 0 (fun _ => true) true fuel f.type ((cs.drop f.offset).take (P.cellsOf f.type)) = some y) →
  ∃ y, d.K W y (cs.drop off) ∧ wf y

theorem opens_last {P : Program} {f : Field} {off : Nat} {α : Type} {d : Kd α} {wf : α → Prop} (hoff : f.offset = off) (hsz : P.cellsOf f.type = d.sz) (ho : Opens P f.type d wf) : OpensF P [f] off d wf := by
 refine ⟨?_⟩
 intro H enc W fuel cs hl hf
 obtain ⟨y, hy⟩ := hf 0 f rfl
 rw [hoff, hsz, List.take_of_length_le (by rw [List.length_drop]; omega)] at hy
 exact ho.out enc W fuel _ _ hy

theorem opens_cons {P : Program} {f : Field} {fs : List Field} {off : Nat} {α β : Type} {a : Kd α} {b : Kd β} {wa : α → Prop} {wb : β → Prop} (hoff : f.offset = off) (hsz : P.cellsOf f.type = a.sz)
  (ha : Opens P f.type a wa) (hb : OpensF P fs (off + a.sz) b wb) : OpensF P (f :: fs) off (Kd.pair a b) (fun x => wa x.1 ∧ wb x.2) := by
 refine ⟨?_⟩
 intro H enc W fuel cs hl hf
 have hl' : cs.length = off + (a.sz + b.sz) := hl
 obtain ⟨y, hy⟩ := hf 0 f rfl
 rw [hoff, hsz] at hy
 obtain ⟨p, hp, hwp⟩ := ha.out enc W fuel _ _ hy
 obtain ⟨q, hq, hwq⟩ := hb.out enc W fuel cs (by omega) (fun i g hg => hf (i + 1) g (by simpa using hg))
 refine ⟨(p, q), ⟨(cs.drop off).take a.sz, cs.drop (off + a.sz), ?_, hp, hq⟩, hwp, hwq⟩
 rw [← List.drop_drop, List.take_append_drop]

theorem opens_struct {P : Program} {t : TypeId} {fs : Array Field} {α β : Type} {d : Kd α} {f : β → α} {wf : α → Prop} (hT : P.underlying t = some (.struct fs)) (hsz : P.cellsOf t = d.sz) (g : α → β) (hg : ∀ y, f (g y) = y)
  (ho : OpensF P fs.toList 0 d wf) : Opens P t (Kd.iso d f) (fun x => wf (f x)) := by
 refine ⟨?_⟩
 intro H enc W fuel cs x hx
 obtain ⟨xs, n, _, _, hl, hlen, hf⟩ := DataW.trod_struct hT hx
 obtain ⟨y, hy, hw⟩ := ho.out enc W n cs (by omega) (fun i q hq => ⟨_, (hf i q (by simpa using hq)).trans (List.getElem?_eq_getElem (by
  have := (List.getElem?_eq_some_iff.1 hq).1
  simp at this hlen
  omega))⟩)
 refine ⟨g y, ?_, ?_⟩
 ·show d.K W (f (g y)) cs
  rw [hg]
  exact hy
 ·show wf (f (g y))
  rw [hg]
  exact hw

end Go.Proofs.Ytpdpdfccgeegaaa.Opn

namespace Go.Proofs.Ytpdpdfccgeegaaa.P
open Go.RowKit Go.Proofs.YtpdpdfccgeegaaaW.PrintWords Go.Proofs.YtpdpdfccgeegaaaW.PrintLast Go.Proofs.YtpdpdfccgeegaaaW.PrintMore Go.Proofs.Ytpdpdfccgeegaaa.Opn
set_option linter.unusedVariables false

theorem opens3 : Opens Try.prog 3 (Kd.int .i64) wfI := opens_int Try.underlying3
theorem opens22 : Opens Try.prog 22 (Kd.slice 3 (Kd.int .i64)) (wfL wfI) := opens_slice Try.underlying22 (by kernel_rfl) opens3
theorem opens23 : Opens Try.prog 23 (Kd.slice 22 (Kd.slice 3 (Kd.int .i64))) (wfL (wfL wfI)) := opens_slice Try.underlying23 (by kernel_rfl) opens22
def wf34 (x : S34) : Prop := (wfL wfI) x.f0 ∧ (wfL (wfL wfI)) x.f1 ∧ (wfL wfI) x.f2 ∧ (wfL wfI) x.f3 ∧ wfI x.f4
theorem opens34 : Opens Try.prog 34 k34 wf34 := by
 have h := opens_struct (f := (fun x : S34 => (x.f0, x.f1, x.f2, x.f3, x.f4))) Try.underlying34 (by kernel_rfl) (fun y => ⟨y.1, y.2.1, y.2.2.1, y.2.2.2.1, y.2.2.2.2⟩) (fun _ => rfl) (opens_cons rfl (by kernel_rfl) opens22 (opens_cons rfl (by kernel_rfl) opens23 (opens_cons rfl (by kernel_rfl) opens22 (opens_cons rfl (by kernel_rfl) opens22 (opens_last rfl (by kernel_rfl) opens3)))))
 exact ⟨h.out⟩

end Go.Proofs.Ytpdpdfccgeegaaa.P

namespace Go.Proofs.Ytpdpdfccgeegaaa.P
open Go.RowKit Go.Proofs.YtpdpdfccgeegaaaW.PrintWords Go.Proofs.YtpdpdfccgeegaaaW.PrintLast Go.Proofs.YtpdpdfccgeegaaaW.PrintMore Go.Proofs.Ytpdpdfccgeegaaa.Opn
set_option linter.unusedVariables false

def laws_FnExactNewTurns.Pure : Prop := ∀ (l0 : List Int), (wfL wfI) l0 → ∃ k, laws_FnExactNewTurns.f k l0 = some true

end Go.Proofs.Ytpdpdfccgeegaaa.P

namespace Go.Proofs.Ytpdpdfccgeegaaa.Pure
open Go.RowKit Go.Proofs.Ytpdpdfccgeegaaa.P Go.Proofs.YtpdpdfccgeegaaaW.PrintWords Go.Proofs.YtpdpdfccgeegaaaW.PrintLast Go.Proofs.Ytpdpdfccgeegaaa.Opn
set_option linter.unusedVariables false
set_option linter.unusedSimpArgs false

theorem wrap_id {x : Int} (h0 : -9223372036854775808 ≤ x) (h1 : x ≤ 9223372036854775807) : wrap64 x = x := by
 unfold wrap64
 omega
theorem rd_nat (l : List Int) (i : Nat) (h : i < l.length) : rd l (i : Int) = l[i] := by
 simp [rd, List.getD_eq_getElem?_getD, List.getElem?_eq_getElem h]
theorem drop_rd (l : List Int) (i : Nat) (h : i < l.length) : l.drop i = rd l (i : Int) :: l.drop (i + 1) := by
 rw [List.drop_eq_getElem_cons h, rd_nat l i h]
theorem take_rd (l : List Int) (i : Nat) (h : i < l.length) : l.take (i + 1) = l.take i ++ [rd l (i : Int)] := by
 rw [List.take_succ_eq_append_getElem h, rd_nat l i h]
theorem take_set_succ {α : Type} (l : List α) (i : Nat) (h : i < l.length) (v : α) : (l.set i v).take (i + 1) = l.take i ++ [v] := by
 rw [List.take_succ_eq_append_getElem (by simpa using h)]
 rw [List.getElem_set_self, List.take_set_of_le (Nat.le_refl i)]
theorem round {k d : Nat} (h : d < k) : ∃ m, k = m + 1 := ⟨k - 1, by omega⟩
def marks (a : Int) : Nat → List Int
 | 0 => []
 | n + 1 => a :: marks (a + 1) n
theorem marks_length (a : Int) (n : Nat) : (marks a n).length = n := by
 induction n generalizing a with
 | zero => rfl
 | succ n ih => simp [marks, ih]
theorem marks_rd (n : Nat) : ∀ (a : Int) (i : Nat), i < n → rd (marks a n) (i : Int) = a + i := by
 induction n with
 | zero => intro a i h; omega
 | succ n ih =>
  intro a i h
  cases i with
  | zero => simp [marks, rd]
  | succ i =>
   have := ih (a + 1) i (by omega)
   simp only [marks, rd, Int.toNat_natCast, List.getD_cons_succ] at this ⊢
   rw [this]
   push_cast
   omega
theorem marks_snoc (n : Nat) : ∀ (a : Int), marks a (n + 1) = marks a n ++ [a + n] := by
 induction n with
 | zero => intro a; simp [marks]
 | succ n ih =>
  intro a
  rw [marks, ih (a + 1)]
  simp only [marks, List.cons_append, List.cons.injEq, true_and]
  congr 2
  push_cast
  omega

end Go.Proofs.Ytpdpdfccgeegaaa.Pure

namespace Go.Proofs.Ytpdpdfccgeegaaa.Pure
open Go.RowKit Go.Proofs.Ytpdpdfccgeegaaa.P Go.Proofs.YtpdpdfccgeegaaaW.PrintWords Go.Proofs.YtpdpdfccgeegaaaW.PrintLast Go.Proofs.Ytpdpdfccgeegaaa.Opn
set_option linter.unusedVariables false
set_option linter.unusedSimpArgs false

theorem toIntS_l0 (x : List Int) (hn : x.length ≤ 1048576) : ∀ (d k i : Nat) (y : List Int), i + d = x.length → d < k → y.length = x.length → y.take i = x.take i → laws_toIntS.l0 k x y (i : Int) = some x := by
 intro d
 induction d with
 | zero =>
  intro k i y hi hk hy ht
  obtain ⟨k, rfl⟩ := round hk
  simp only [laws_toIntS.l0]
  rw [if_neg (by omega)]
  have : i = x.length := by omega
  subst this
  rw [List.take_length, ← hy, List.take_length] at ht
  rw [ht]
 | succ d ih =>
  intro k i y hi hk hy ht
  obtain ⟨k, rfl⟩ := round hk
  simp only [laws_toIntS.l0]
  rw [if_pos (by omega), if_pos (by omega), if_pos (by omega), wrap_id (by omega) (by omega), Int.toNat_natCast]
  have := ih k (i + 1) (y.set i (rd x i)) (by omega) (by omega) (by simpa using hy) (by rw [take_set_succ _ _ (by omega), ht, take_rd _ _ (by omega)])
  simpa using this
theorem toIntS (x : List Int) (hn : x.length ≤ 1048576) (k : Nat) (hk : x.length < k) : laws_toIntS.f k x = some x := by
 unfold laws_toIntS.f
 rw [if_pos (by omega), if_pos (by omega), Int.toNat_natCast]
 exact toIntS_l0 x hn x.length k 0 _ (by omega) hk (by simp) (by simp)
theorem eqIntS_l0 (x y : List Int) (hn : x.length ≤ 1048576) (he : x.length = y.length) : ∀ (d k i : Nat), i + d = x.length → d < k → x.take i = y.take i → laws_eqIntS.l0 k x y (i : Int) = some (decide (x = y)) := by
 intro d
 induction d with
 | zero =>
  intro k i hi hk ht
  obtain ⟨k, rfl⟩ := round hk
  simp only [laws_eqIntS.l0]
  rw [if_neg (by omega)]
  have : i = x.length := by omega
  subst this
  rw [List.take_length, he, List.take_length] at ht
  simp [ht]
 | succ d ih =>
  intro k i hi hk ht
  obtain ⟨k, rfl⟩ := round hk
  simp only [laws_eqIntS.l0]
  rw [if_pos (by omega), if_pos (by omega), if_pos (by omega)]
  by_cases hc : rd x (i : Int) = rd y (i : Int)
  ·rw [if_pos hc, wrap_id (by omega) (by omega)]
   have := ih k (i + 1) (by omega) (by omega) (by rw [take_rd _ _ (by omega), take_rd _ _ (by omega), ht, hc])
   simpa using this
  ·rw [if_neg hc]
   have : x ≠ y := by rintro rfl; exact hc rfl
   simp [this]
theorem eqIntS (x y : List Int) (hn : x.length ≤ 1048576) (k : Nat) (hk : x.length < k) : laws_eqIntS.f k x y = some (decide (x = y)) := by
 unfold laws_eqIntS.f
 by_cases he : x.length = y.length
 ·rw [if_pos (by omega)]
  exact eqIntS_l0 x y hn he x.length k 0 (by omega) hk (by simp)
 ·rw [if_neg (by omega)]
  have : x ≠ y := by rintro rfl; exact he rfl
  simp [this]

end Go.Proofs.Ytpdpdfccgeegaaa.Pure

namespace Go.Proofs.Ytpdpdfccgeegaaa.Pure
open Go.RowKit Go.Proofs.Ytpdpdfccgeegaaa.P Go.Proofs.YtpdpdfccgeegaaaW.PrintWords Go.Proofs.YtpdpdfccgeegaaaW.PrintLast Go.Proofs.Ytpdpdfccgeegaaa.Opn
set_option linter.unusedVariables false
set_option linter.unusedSimpArgs false

theorem spec_in (a b c : Int) : spec_l1In.f a b c = some (decide (b ≤ a ∧ a ≤ c)) := by
 unfold spec_l1In.f
 by_cases h : a ≥ b
 ·rw [if_pos h]
  by_cases h2 : a ≤ c
  ·simp [h, h2]
  ·simp [h2]
 ·rw [if_neg h]
  have : ¬ b ≤ a := by omega
  simp [this]
theorem impl_in_ (a b c : Int) : impl_in.f a b c = some (decide (b ≤ a ∧ a ≤ c)) := spec_in a b c

end Go.Proofs.Ytpdpdfccgeegaaa.Pure

namespace Go.Proofs.Ytpdpdfccgeegaaa.Pure
open Go.RowKit Go.Proofs.Ytpdpdfccgeegaaa.P Go.Proofs.YtpdpdfccgeegaaaW.PrintWords Go.Proofs.YtpdpdfccgeegaaaW.PrintLast Go.Proofs.Ytpdpdfccgeegaaa.Opn
set_option linter.unusedVariables false
set_option linter.unusedSimpArgs false

theorem l1All_l0 (l : List Int) (lo hi : Int) (hn : l.length ≤ 1048576) : ∀ (d k i : Nat), i + d = l.length → d < k → spec_l1All.l0 k lo hi l (l.length : Int) (i : Int) = some ((l.drop i).all fun x => decide (lo ≤ x ∧ x ≤ hi)) := by
 intro d
 induction d with
 | zero =>
  intro k i h hk
  obtain ⟨k, rfl⟩ := round hk
  simp only [spec_l1All.l0]
  rw [if_neg (by omega), List.drop_of_length_le (by omega)]
  rfl
 | succ d ih =>
  intro k i h hk
  obtain ⟨k, rfl⟩ := round hk
  simp only [spec_l1All.l0]
  rw [if_pos (by omega), if_pos (by omega), if_pos (by omega), spec_in, Option.bind_some, drop_rd l i (by omega), List.all_cons]
  by_cases hc : lo ≤ rd l (i : Int) ∧ rd l (i : Int) ≤ hi
  ·rw [if_pos (by simpa using hc), wrap_id (by omega) (by omega)]
   have := ih k (i + 1) (by omega) (by omega)
   simp only [hc, and_self, decide_true, Bool.true_and]
   simpa using this
  ·rw [if_neg (by simpa using hc)]
   simp [hc]
theorem l1All (l : List Int) (lo hi : Int) (hn : l.length ≤ 1048576) (k : Nat) (hk : l.length < k) : spec_l1All.f k l lo hi = some (l.all fun x => decide (lo ≤ x ∧ x ≤ hi)) := by
 unfold spec_l1All.f
 have := l1All_l0 l lo hi hn l.length k 0 (by omega) hk
 simpa using this

end Go.Proofs.Ytpdpdfccgeegaaa.Pure

namespace Go.Proofs.Ytpdpdfccgeegaaa.Pure
open Go.RowKit Go.Proofs.Ytpdpdfccgeegaaa.P Go.Proofs.YtpdpdfccgeegaaaW.PrintWords Go.Proofs.YtpdpdfccgeegaaaW.PrintLast Go.Proofs.Ytpdpdfccgeegaaa.Opn
set_option linter.unusedVariables false
set_option linter.unusedSimpArgs false

theorem rdL (l : List (List Int)) (i : Nat) (h : i < l.length) : rd_L1 l (i : Int) = l[i] := by
 simp [rd_L1, List.getD_eq_getElem?_getD, List.getElem?_eq_getElem h]
theorem drop_rdL (l : List (List Int)) (i : Nat) (h : i < l.length) : l.drop i = rd_L1 l (i : Int) :: l.drop (i + 1) := by
 rw [List.drop_eq_getElem_cons h, rdL l i h]
theorem rdL_mem (l : List (List Int)) (i : Nat) (h : i < l.length) : rd_L1 l (i : Int) ∈ l := by
 rw [rdL l i h]
 exact List.getElem_mem h
/-- What the sum of sizes tells: a number below 0, or all sizes are small. -/
theorem eqSS_l0 (x : List (List Int)) (hn : x.length ≤ 1048576) (hq : ∀ q ∈ x, q.length ≤ 1048576) : ∀ (d k i : Nat), i + d = x.length → d + 1048576 < k → laws_eqIntSS.l0 k x x (i : Int) = some true := by
 intro d
 induction d with
 | zero =>
  intro k i hi hk
  obtain ⟨k, rfl⟩ := round hk
  rw [laws_eqIntSS.l0, if_neg (by omega)]
 | succ d ih =>
  intro k i hi hk
  obtain ⟨k, rfl⟩ := round hk
  have hm := hq _ (rdL_mem x i (by omega))
  rw [laws_eqIntSS.l0, if_pos (by omega), if_pos (by omega), if_pos (by omega), eqIntS _ _ hm k (by omega), Option.bind_some, if_pos (by simp), wrap_id (by omega) (by omega)]
  exact ih k (i + 1) (by omega) (by omega)
theorem eqSS (x : List (List Int)) (hn : x.length ≤ 1048576) (hq : ∀ q ∈ x, q.length ≤ 1048576) (k : Nat) (hk : 2097152 < k) : laws_eqIntSS.f k x x = some true := by
 unfold laws_eqIntSS.f
 rw [if_pos rfl]
 exact eqSS_l0 x hn hq x.length k 0 (by omega) (by omega)
theorem eqTurns (l0 : List Int) (l1 : List (List Int)) (l2 l3 : List Int) (a : Int) (h0 : l0.length ≤ 1048576) (h1 : l1.length ≤ 1048576) (hq : ∀ q ∈ l1, q.length ≤ 1048576) (h2 : l2.length ≤ 1048576) (h3 : l3.length ≤ 1048576) (k : Nat) (hk : 2097152 < k) : laws_eqTurns.f k l0 l1 l2 l3 a l0 l1 l2 l3 a = some true := by
 unfold laws_eqTurns.f
 rw [eqIntS l0 l0 h0 k (by omega), Option.bind_some, if_pos (by simp), eqSS l1 h1 hq k hk, Option.bind_some, if_pos rfl, eqIntS l2 l2 h2 k (by omega), Option.bind_some, if_pos (by simp), eqIntS l3 l3 h3 k (by omega), Option.bind_some, if_pos (by simp), if_pos rfl]
theorem any_inR (l : List Int) (lo hi : Int) : l.any (fun x => !inR lo hi x) = !l.all (fun x => decide (lo ≤ x ∧ x ≤ hi)) := by
 rw [List.all_eq_not_any_not, Bool.not_not]
 rfl

end Go.Proofs.Ytpdpdfccgeegaaa.Pure

namespace Go.Proofs.Ytpdpdfccgeegaaa.Pure
open Go.RowKit Go.Proofs.Ytpdpdfccgeegaaa.P Go.Proofs.YtpdpdfccgeegaaaW.PrintWords Go.Proofs.YtpdpdfccgeegaaaW.PrintLast Go.Proofs.Ytpdpdfccgeegaaa.Opn
set_option linter.unusedVariables false
set_option linter.unusedSimpArgs false

theorem markIntS_l0 (n : Nat) (a : Int) (ha : 0 ≤ a) (hb : a + n ≤ 1000000000) : ∀ (d k i : Nat) (y : List Int), i + d = n → d < k → y.length = n → y.take i = marks a i → laws_markIntS.l0 k y (a + i) (i : Int) = some (a + n, marks a n) := by
 intro d
 induction d with
 | zero =>
  intro k i y hi hk hy ht
  obtain ⟨k, rfl⟩ := round hk
  simp only [laws_markIntS.l0]
  rw [if_neg (by omega)]
  have : i = n := by omega
  subst this
  rw [← hy, List.take_length] at ht
  rw [ht, hy]
 | succ d ih =>
  intro k i y hi hk hy ht
  obtain ⟨k, rfl⟩ := round hk
  simp only [laws_markIntS.l0]
  rw [if_pos (by omega), if_pos (by omega), wrap_id (by omega) (by omega), wrap_id (by omega) (by omega), Int.toNat_natCast]
  have := ih k (i + 1) (y.set i (a + i)) (by omega) (by omega) (by simpa using hy) (by rw [take_set_succ _ _ (by omega), ht, marks_snoc])
  rw [show a + (i : Int) + 1 = a + ((i + 1 : Nat) : Int) by push_cast; omega]
  simpa using this
theorem markIntS (y : List Int) (a : Int) (ha : 0 ≤ a) (hb : a + y.length ≤ 1000000000) (k : Nat) (hk : y.length < k) : laws_markIntS.f k y a = some (a + y.length, marks a y.length) := by
 unfold laws_markIntS.f
 have := markIntS_l0 y.length a ha hb y.length k 0 y (by omega) hk rfl (by simp [marks])
 simpa using this
theorem heldIntS_l0 (n : Nat) (a : Int) (ha : 0 ≤ a) (hb : a + n ≤ 1000000000) : ∀ (d k i : Nat), i + d = n → d < k → laws_heldIntS.l0 k (marks a n) (a + i) (i : Int) = some (a + n) := by
 intro d
 induction d with
 | zero =>
  intro k i hi hk
  obtain ⟨k, rfl⟩ := round hk
  simp only [laws_heldIntS.l0]
  rw [if_neg (by rw [marks_length]; omega)]
  have : i = n := by omega
  subst this
  rfl
 | succ d ih =>
  intro k i hi hk
  obtain ⟨k, rfl⟩ := round hk
  simp only [laws_heldIntS.l0]
  rw [if_pos (by rw [marks_length]; omega), if_pos (by omega), marks_rd n a i (by omega), if_pos rfl, wrap_id (by omega) (by omega), wrap_id (by omega) (by omega)]
  have := ih k (i + 1) (by omega) (by omega)
  rw [show a + (i : Int) + 1 = a + ((i + 1 : Nat) : Int) by push_cast; omega]
  simpa using this
theorem heldIntS (n : Nat) (a : Int) (ha : 0 ≤ a) (hb : a + n ≤ 1000000000) (k : Nat) (hk : n < k) : laws_heldIntS.f k (marks a n) a = some (a + n) := by
 unfold laws_heldIntS.f
 have := heldIntS_l0 n a ha hb n k 0 (by omega) hk
 simpa using this

end Go.Proofs.Ytpdpdfccgeegaaa.Pure
