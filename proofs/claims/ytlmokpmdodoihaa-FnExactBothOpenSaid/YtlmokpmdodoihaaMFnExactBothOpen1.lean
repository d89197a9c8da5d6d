/- FnExactBothOpen: for every input that can be read, the law returns true and its arguments read as before. Conditions: none beyond the row's own. (Part 2 of 6: contracts made by pw.py with the kit's print, contracts by hand, plain laws, the row.) -/
import Derived.Test.YtlmokpmdodoihaaMFnExactBothOpen0
import Derived.Shelf.Spec.SlicesGrow
import Derived.WalkSpells
import Derived.Shelf.Abstract

namespace Go.Proofs.Ytlmokpmdodoihaa.P
open Go.RowKit Go.Proofs.YtlmokpmdodoihaaW.PrintWords Go.Proofs.YtlmokpmdodoihaaW.PrintLast Go.Proofs.YtlmokpmdodoihaaW.PrintMore
attribute [local go_sem] max2_int min2_int max_two min_two max_three min_three max_four min_four
set_option linter.unusedVariables false
set_option linter.unusedSimpArgs false

/-! ### spec_GoodGreet: function 12 -/
mutual
def spec_GoodGreet.j0 : Nat → Bool → Int → Int → Int → Int → Int → Int → Int → Int → List (S44) → List (S44) → List (S44) → Option (Bool)
  | 0, _, _, _, _, _, _, _, _, _, _, _, _ => none
  | k + 1, x46, x102000, x102001, x102002, x102003, x102004, x102005, x102006, x102007, x102008, x102009, x102010 => if x46 = true then (some false) else ((spec_l15Of.f x102002 x102006 (x102000 == 0)).bind fun t106 => (if t106 = true then ((spec_l15Of.f x102005 x102007 (decide (x102000 < 2))).bind fun t107 => (if t107 = true then ((spec_l15Of.f x102004 x102006 (x102001 == 0)).bind fun t108 => (if t108 = true then ((spec_l15Of.f x102003 x102007 (x102001 == 0)).bind fun t109 => (spec_GoodGreet.j1 k (!t109) x102000 x102001 x102002 x102003 x102004 x102005 x102006 x102007 x102008 x102009 x102010)) else (spec_GoodGreet.j1 k true x102000 x102001 x102002 x102003 x102004 x102005 x102006 x102007 x102008 x102009 x102010))) else (spec_GoodGreet.j1 k true x102000 x102001 x102002 x102003 x102004 x102005 x102006 x102007 x102008 x102009 x102010))) else (spec_GoodGreet.j1 k true x102000 x102001 x102002 x102003 x102004 x102005 x102006 x102007 x102008 x102009 x102010)))
def spec_GoodGreet.j1 : Nat → Bool → Int → Int → Int → Int → Int → Int → Int → Int → List (S44) → List (S44) → List (S44) → Option (Bool)
  | 0, _, _, _, _, _, _, _, _, _, _, _, _ => none
  | k + 1, x88, x102000, x102001, x102002, x102003, x102004, x102005, x102006, x102007, x102008, x102009, x102010 => if x88 = true then (some false) else (spec_GoodGreet.l0 k x102008 (x102008.length : Int) 0 x102000 x102001 x102002 x102003 x102004 x102005 x102006 x102007 x102008 x102009 x102010)
def spec_GoodGreet.l0 : Nat → List (S44) → Int → Int → Int → Int → Int → Int → Int → Int → Int → Int → List (S44) → List (S44) → List (S44) → Option (Bool)
  | 0, _, _, _, _, _, _, _, _, _, _, _, _, _, _ => none
  | k + 1, x90, x91, x92, x102000, x102001, x102002, x102003, x102004, x102005, x102006, x102007, x102008, x102009, x102010 => if x92 < x91 then (if 0 ≤ x92 then (if x92 < (x90.length : Int) then ((spec_l15Letter.f x102000 x102001 x102002 x102003 x102004 x102005 x102006 x102007 x102008 x102009 x102010 ((rd_T44 x90 x92).f0) ((rd_T44 x90 x92).f1) ((rd_T44 x90 x92).f2)).bind fun t112 => (if t112 = true then (spec_GoodGreet.l0 k x90 x91 (wrap64 (x92 + 1)) x102000 x102001 x102002 x102003 x102004 x102005 x102006 x102007 x102008 x102009 x102010) else (some false))) else (none)) else (none)) else ((some (([] : List (S44)) : List (S44))).bind fun y113 => (if y113.length + x102009.length < 5864062014805 then ((some (y113 ++ x102009 : List (S44))).bind fun y116 => (if y116.length + x102010.length < 5864062014805 then ((some (y116 ++ x102010 : List (S44))).bind fun y119 => (spec_GoodGreet.l1 k y119 (y119.length : Int) 0 x102000 x102001 x102002 x102003 x102004 x102005 x102006 x102007 x102008 x102009 x102010)) else (none))) else (none)))
def spec_GoodGreet.l1 : Nat → List (S44) → Int → Int → Int → Int → Int → Int → Int → Int → Int → Int → List (S44) → List (S44) → List (S44) → Option (Bool)
  | 0, _, _, _, _, _, _, _, _, _, _, _, _, _, _ => none
  | k + 1, x107, x108, x109, x102000, x102001, x102002, x102003, x102004, x102005, x102006, x102007, x102008, x102009, x102010 => if x109 < x108 then (if 0 ≤ x109 then (if x109 < (x107.length : Int) then (if ((rd_T44 x107 x109).f0) = 3 then ((spec_l15Letter.f x102000 x102001 x102002 x102003 x102004 x102005 x102006 x102007 x102008 x102009 x102010 ((rd_T44 x107 x109).f0) ((rd_T44 x107 x109).f1) ((rd_T44 x107 x109).f2)).bind fun t124 => (if t124 = true then (spec_GoodGreet.l1 k x107 x108 (wrap64 (x109 + 1)) x102000 x102001 x102002 x102003 x102004 x102005 x102006 x102007 x102008 x102009 x102010) else (some false))) else (some false)) else (none)) else (none)) else (some true)
end
def spec_GoodGreet.f (k : Nat) (a0_0 : Int) (a0_1 : Int) (a0_2 : Int) (a0_3 : Int) (a0_4 : Int) (a0_5 : Int) (a0_6 : Int) (a0_7 : Int) (l0_8 : List (S44)) (l0_9 : List (S44)) (l0_10 : List (S44)) : Option (Bool) := (spec_l1In.f a0_0 0 2).bind fun t102 => (if t102 = true then ((spec_l1In.f a0_1 0 2).bind fun t103 => (if t103 = true then ((spec_l1In.f a0_6 0 1000).bind fun t104 => (if t104 = true then ((spec_l1In.f a0_7 0 1000).bind fun t105 => (if t105 = true then (if (l0_8.length : Int) > 30 then (spec_GoodGreet.j0 k true a0_0 a0_1 a0_2 a0_3 a0_4 a0_5 a0_6 a0_7 l0_8 l0_9 l0_10) else (if (l0_9.length : Int) > 300 then (spec_GoodGreet.j0 k true a0_0 a0_1 a0_2 a0_3 a0_4 a0_5 a0_6 a0_7 l0_8 l0_9 l0_10) else (spec_GoodGreet.j0 k (decide ((l0_10.length : Int) > 300)) a0_0 a0_1 a0_2 a0_3 a0_4 a0_5 a0_6 a0_7 l0_8 l0_9 l0_10))) else (spec_GoodGreet.j0 k true a0_0 a0_1 a0_2 a0_3 a0_4 a0_5 a0_6 a0_7 l0_8 l0_9 l0_10))) else (spec_GoodGreet.j0 k true a0_0 a0_1 a0_2 a0_3 a0_4 a0_5 a0_6 a0_7 l0_8 l0_9 l0_10))) else (spec_GoodGreet.j0 k true a0_0 a0_1 a0_2 a0_3 a0_4 a0_5 a0_6 a0_7 l0_8 l0_9 l0_10))) else (spec_GoodGreet.j0 k true a0_0 a0_1 a0_2 a0_3 a0_4 a0_5 a0_6 a0_7 l0_8 l0_9 l0_10))
theorem spec_GoodGreet.mono_l : ∀ k, (∀ y0 y1 y2 y3 y4 y5 y6 y7 y8 y9 y10 y11, LeO (spec_GoodGreet.j0 k y0 y1 y2 y3 y4 y5 y6 y7 y8 y9 y10 y11) (spec_GoodGreet.j0 (k + 1) y0 y1 y2 y3 y4 y5 y6 y7 y8 y9 y10 y11)) ∧ (∀ y0 y1 y2 y3 y4 y5 y6 y7 y8 y9 y10 y11, LeO (spec_GoodGreet.j1 k y0 y1 y2 y3 y4 y5 y6 y7 y8 y9 y10 y11) (spec_GoodGreet.j1 (k + 1) y0 y1 y2 y3 y4 y5 y6 y7 y8 y9 y10 y11)) ∧ (∀ y0 y1 y2 y3 y4 y5 y6 y7 y8 y9 y10 y11 y12 y13, LeO (spec_GoodGreet.l0 k y0 y1 y2 y3 y4 y5 y6 y7 y8 y9 y10 y11 y12 y13) (spec_GoodGreet.l0 (k + 1) y0 y1 y2 y3 y4 y5 y6 y7 y8 y9 y10 y11 y12 y13)) ∧ (∀ y0 y1 y2 y3 y4 y5 y6 y7 y8 y9 y10 y11 y12 y13, LeO (spec_GoodGreet.l1 k y0 y1 y2 y3 y4 y5 y6 y7 y8 y9 y10 y11 y12 y13) (spec_GoodGreet.l1 (k + 1) y0 y1 y2 y3 y4 y5 y6 y7 y8 y9 y10 y11 y12 y13))
  | 0 => ⟨fun _ _ _ _ _ _ _ _ _ _ _ _ r h => by simp [spec_GoodGreet.j0] at h, fun _ _ _ _ _ _ _ _ _ _ _ _ r h => by simp [spec_GoodGreet.j1] at h, fun _ _ _ _ _ _ _ _ _ _ _ _ _ _ r h => by simp [spec_GoodGreet.l0] at h, fun _ _ _ _ _ _ _ _ _ _ _ _ _ _ r h => by simp [spec_GoodGreet.l1] at h⟩
  | k + 1 => by
    obtain ⟨ih0, ih1, ih2, ih3⟩ := spec_GoodGreet.mono_l k
    refine ⟨?_, ?_, ?_, ?_⟩
    · intro y0 y1 y2 y3 y4 y5 y6 y7 y8 y9 y10 y11
      unfold spec_GoodGreet.j0
      repeat' first
      | (with_reducible exact ih0 _ _ _ _ _ _ _ _ _ _ _ _)
      | (with_reducible exact ih1 _ _ _ _ _ _ _ _ _ _ _ _)
      | (with_reducible exact ih2 _ _ _ _ _ _ _ _ _ _ _ _ _ _)
      | (with_reducible exact ih3 _ _ _ _ _ _ _ _ _ _ _ _ _ _)
      | (with_reducible exact LeO.refl _)
      | (with_reducible exact LeO.none _)
      | (with_reducible refine LeO.ite ?_ ?_)
      | (with_reducible refine LeO.bind ?_ (fun _ => ?_))
      | exact ih0 _ _ _ _ _ _ _ _ _ _ _ _
      | exact ih1 _ _ _ _ _ _ _ _ _ _ _ _
      | exact ih2 _ _ _ _ _ _ _ _ _ _ _ _ _ _
      | exact ih3 _ _ _ _ _ _ _ _ _ _ _ _ _ _
      | exact LeO.none _
      | refine LeO.ite ?_ ?_
      | refine LeO.bind ?_ (fun _ => ?_)
    · intro y0 y1 y2 y3 y4 y5 y6 y7 y8 y9 y10 y11
      unfold spec_GoodGreet.j1
      repeat' first
      | (with_reducible exact ih0 _ _ _ _ _ _ _ _ _ _ _ _)
      | (with_reducible exact ih1 _ _ _ _ _ _ _ _ _ _ _ _)
      | (with_reducible exact ih2 _ _ _ _ _ _ _ _ _ _ _ _ _ _)
      | (with_reducible exact ih3 _ _ _ _ _ _ _ _ _ _ _ _ _ _)
      | (with_reducible exact LeO.refl _)
      | (with_reducible exact LeO.none _)
      | (with_reducible refine LeO.ite ?_ ?_)
      | (with_reducible refine LeO.bind ?_ (fun _ => ?_))
      | exact ih0 _ _ _ _ _ _ _ _ _ _ _ _
      | exact ih1 _ _ _ _ _ _ _ _ _ _ _ _
      | exact ih2 _ _ _ _ _ _ _ _ _ _ _ _ _ _
      | exact ih3 _ _ _ _ _ _ _ _ _ _ _ _ _ _
      | exact LeO.none _
      | refine LeO.ite ?_ ?_
      | refine LeO.bind ?_ (fun _ => ?_)
    · intro y0 y1 y2 y3 y4 y5 y6 y7 y8 y9 y10 y11 y12 y13
      unfold spec_GoodGreet.l0
      repeat' first
      | (with_reducible exact ih0 _ _ _ _ _ _ _ _ _ _ _ _)
      | (with_reducible exact ih1 _ _ _ _ _ _ _ _ _ _ _ _)
      | (with_reducible exact ih2 _ _ _ _ _ _ _ _ _ _ _ _ _ _)
      | (with_reducible exact ih3 _ _ _ _ _ _ _ _ _ _ _ _ _ _)
      | (with_reducible exact LeO.refl _)
      | (with_reducible exact LeO.none _)
      | (with_reducible refine LeO.ite ?_ ?_)
      | (with_reducible refine LeO.bind ?_ (fun _ => ?_))
      | exact ih0 _ _ _ _ _ _ _ _ _ _ _ _
      | exact ih1 _ _ _ _ _ _ _ _ _ _ _ _
      | exact ih2 _ _ _ _ _ _ _ _ _ _ _ _ _ _
      | exact ih3 _ _ _ _ _ _ _ _ _ _ _ _ _ _
      | exact LeO.none _
      | refine LeO.ite ?_ ?_
      | refine LeO.bind ?_ (fun _ => ?_)
    · intro y0 y1 y2 y3 y4 y5 y6 y7 y8 y9 y10 y11 y12 y13
      unfold spec_GoodGreet.l1
      repeat' first
      | (with_reducible exact ih0 _ _ _ _ _ _ _ _ _ _ _ _)
      | (with_reducible exact ih1 _ _ _ _ _ _ _ _ _ _ _ _)
      | (with_reducible exact ih2 _ _ _ _ _ _ _ _ _ _ _ _ _ _)
      | (with_reducible exact ih3 _ _ _ _ _ _ _ _ _ _ _ _ _ _)
      | (with_reducible exact LeO.refl _)
      | (with_reducible exact LeO.none _)
      | (with_reducible refine LeO.ite ?_ ?_)
      | (with_reducible refine LeO.bind ?_ (fun _ => ?_))
      | exact ih0 _ _ _ _ _ _ _ _ _ _ _ _
      | exact ih1 _ _ _ _ _ _ _ _ _ _ _ _
      | exact ih2 _ _ _ _ _ _ _ _ _ _ _ _ _ _
      | exact ih3 _ _ _ _ _ _ _ _ _ _ _ _ _ _
      | exact LeO.none _
      | refine LeO.ite ?_ ?_
      | refine LeO.bind ?_ (fun _ => ?_)
theorem spec_GoodGreet.mono : ∀ a0 a1 a2 a3 a4 a5 a6 a7 a8 a9 a10 k, LeO (spec_GoodGreet.f k a0 a1 a2 a3 a4 a5 a6 a7 a8 a9 a10) (spec_GoodGreet.f (k + 1) a0 a1 a2 a3 a4 a5 a6 a7 a8 a9 a10) := by
  intro a0 a1 a2 a3 a4 a5 a6 a7 a8 a9 a10 k
  obtain ⟨ih0, ih1, ih2, ih3⟩ := spec_GoodGreet.mono_l k
  unfold spec_GoodGreet.f
  repeat' first
      | (with_reducible exact ih0 _ _ _ _ _ _ _ _ _ _ _ _)
      | (with_reducible exact ih1 _ _ _ _ _ _ _ _ _ _ _ _)
      | (with_reducible exact ih2 _ _ _ _ _ _ _ _ _ _ _ _ _ _)
      | (with_reducible exact ih3 _ _ _ _ _ _ _ _ _ _ _ _ _ _)
      | (with_reducible exact LeO.refl _)
      | (with_reducible exact LeO.none _)
      | (with_reducible refine LeO.ite ?_ ?_)
      | (with_reducible refine LeO.bind ?_ (fun _ => ?_))
      | exact ih0 _ _ _ _ _ _ _ _ _ _ _ _
      | exact ih1 _ _ _ _ _ _ _ _ _ _ _ _
      | exact ih2 _ _ _ _ _ _ _ _ _ _ _ _ _ _
      | exact ih3 _ _ _ _ _ _ _ _ _ _ _ _ _ _
      | exact LeO.none _
      | refine LeO.ite ?_ ?_
      | refine LeO.bind ?_ (fun _ => ?_)
def spec_GoodGreet.T11 : Bool × List (List Nat × List Nat) := (true, [([], []), ([], []), ([1], [1]), ([0, 2], [0, 2]), ([], []), ([4], [4]), ([3, 5, 3], [3, 5]), ([6], [6]), ([], [])])
def spec_GoodGreet.B11 : List Nat := [0, 0, 2, 7, 0, 16, 63, 127, 0]
theorem spec_GoodGreet.tab11 : rtab .any (opsOf Try.f12 11) = spec_GoodGreet.T11 := by kernel_rfl
theorem spec_GoodGreet.bits11 : waitsOk spec_GoodGreet.T11.2 spec_GoodGreet.B11 = true := by kernel_rfl
set_option maxHeartbeats 8000000 in
set_option maxRecDepth 100000 in
theorem spec_GoodGreet.calls (k : Nat) (a0_0 : Int) (a0_1 : Int) (a0_2 : Int) (a0_3 : Int) (a0_4 : Int) (a0_5 : Int) (a0_6 : Int) (a0_7 : Int) (A0_8 : Option Addr) (c0_8 : Nat) (l0_8 : List (S44)) (A0_9 : Option Addr) (c0_9 : Nat) (l0_9 : List (S44)) (A0_10 : Option Addr) (c0_10 : Nat) (l0_10 : List (S44)) (r : Bool) (w : World) (hr0_8 : Kd.C k44 w A0_8 l0_8.length l0_8) (hc0_8 : l0_8.length ≤ c0_8) (hr0_9 : Kd.C k44 w A0_9 l0_9.length l0_9) (hc0_9 : l0_9.length ≤ c0_9) (hr0_10 : Kd.C k44 w A0_10 l0_10.length l0_10) (hc0_10 : l0_10.length ≤ c0_10) (h : spec_GoodGreet.f k a0_0 a0_1 a0_2 a0_3 a0_4 a0_5 a0_6 a0_7 l0_8 l0_9 l0_10 = some r) :
  Calls Try.prog 12 #[.agg #[.int .i64 a0_0, .int .i64 a0_1, .int .i64 a0_2, .int .i64 a0_3, .int .i64 a0_4, .int .i64 a0_5, .int .i64 a0_6, .int .i64 a0_7, .slice A0_8 l0_8.length c0_8, .slice A0_9 l0_9.length c0_9, .slice A0_10 l0_10.length c0_10]] w fun e w' => e = .returned (.bool r) ∧ Below w.heap.size w w' := by
 have hu24 := Try.underlying24
 have hu44 := Try.underlying44
 have HR0_8 := sA hr0_8
 have HC0_8 := sA hc0_8
 clear hr0_8 hc0_8
 have HR0_9 := sA hr0_9
 have HC0_9 := sA hc0_9
 clear hr0_9 hc0_9
 have HR0_10 := sA hr0_10
 have HC0_10 := sA hc0_10
 clear hr0_10 hc0_10
 have HB := sA (Below.refl w.heap.size w)
 have H : ((spec_l1In.f a0_0 0 2).bind fun t102 => (if t102 = true then ((spec_l1In.f a0_1 0 2).bind fun t103 => (if t103 = true then ((spec_l1In.f a0_6 0 1000).bind fun t104 => (if t104 = true then ((spec_l1In.f a0_7 0 1000).bind fun t105 => (if t105 = true then (if (l0_8.length : Int) > 30 then (spec_GoodGreet.j0 k true a0_0 a0_1 a0_2 a0_3 a0_4 a0_5 a0_6 a0_7 l0_8 l0_9 l0_10) else (if (l0_9.length : Int) > 300 then (spec_GoodGreet.j0 k true a0_0 a0_1 a0_2 a0_3 a0_4 a0_5 a0_6 a0_7 l0_8 l0_9 l0_10) else (spec_GoodGreet.j0 k (decide ((l0_10.length : Int) > 300)) a0_0 a0_1 a0_2 a0_3 a0_4 a0_5 a0_6 a0_7 l0_8 l0_9 l0_10))) else (spec_GoodGreet.j0 k true a0_0 a0_1 a0_2 a0_3 a0_4 a0_5 a0_6 a0_7 l0_8 l0_9 l0_10))) else (spec_GoodGreet.j0 k true a0_0 a0_1 a0_2 a0_3 a0_4 a0_5 a0_6 a0_7 l0_8 l0_9 l0_10))) else (spec_GoodGreet.j0 k true a0_0 a0_1 a0_2 a0_3 a0_4 a0_5 a0_6 a0_7 l0_8 l0_9 l0_10))) else (spec_GoodGreet.j0 k true a0_0 a0_1 a0_2 a0_3 a0_4 a0_5 a0_6 a0_7 l0_8 l0_9 l0_10))) = some r := h
 clear h
 have HC2 := sA H
 clear H
 go_enter Try.func12, Try.ntmps12
 go_upto_region 1 with (first | ((with_reducible refine gate_dst (N := 1) rfl ?_); (try (refine gate_guard (by rfl) ?_; dsimp only)); refine box_event ?hg (N := 1) ?hd (cs := #[.int .i64 a0_0, .int .i64 a0_1, .int .i64 a0_2, .int .i64 a0_3, .int .i64 a0_4, .int .i64 a0_5, .int .i64 a0_6, .int .i64 a0_7, .slice A0_8 l0_8.length c0_8, .slice A0_9 l0_9.length c0_9, .slice A0_10 l0_10.length c0_10]) (t := 24) ?hr ?_; (case hd => rfl); (case hg => rfl); (case hr => first | (go_simp; done) | (go_simp; rfl)); intro gb101 hg w3 hbox hb; have n0_ := sA (below_step (by repeat (first | (with_reducible first | exact HB.out | apply sLA | apply sLN | apply sLD) | exact HB.out)) hb); have n1_ := sA (hbox); have n2_ := sA ((by rw [hg]; exact (below_size (by repeat (first | (with_reducible first | exact HB.out | apply sLA | apply sLN | apply sLD) | exact HB.out))) : w.heap.size ≤ gb101)); have n3_ := sA ((by rw [hg]; exact (below_size (by repeat (first | (with_reducible first | exact HB.out | apply sLA | apply sLN | apply sLD) | exact HB.out))) : w.heap.size ≤ gb101)); clear HB; have HB := n0_; have BK101 := n1_; have GW101 := n2_; have GE101 := n3_; clear n0_ n1_ n2_ n3_; clear hb hbox hg))
 (try simp only [Act.put, List.setIfInBounds_toArray, List.set_cons_zero, List.set_cons_succ])
 go_cut [46] (fun v46 wc => ∃ (kq : Nat) (x46_1 : Bool), v46 = .bool x46_1 ∧ Aside0 (spec_GoodGreet.j0 kq x46_1 a0_0 a0_1 a0_2 a0_3 a0_4 a0_5 a0_6 a0_7 l0_8 l0_9 l0_10 = some r) ∧ Aside0 (kq ≤ k) ∧ Aside0 (wc.heap[gb101]? = some (.cells #[.int .i64 a0_0, .int .i64 a0_1, .int .i64 a0_2, .int .i64 a0_3, .int .i64 a0_4, .int .i64 a0_5, .int .i64 a0_6, .int .i64 a0_7, (.slice A0_8 l0_8.length c0_8), (.slice A0_9 l0_9.length c0_9), (.slice A0_10 l0_10.length c0_10)] 24 (0, 0))) ∧ Aside0 (Below w.heap.size w wc))
 case first =>
  have H := HC2.out
  clear HC2
  replace H := Option.bind_eq_some_iff.mp H
  obtain ⟨t102, A40, H⟩ := H
  replace H : (if t102 = true then ((spec_l1In.f a0_1 0 2).bind fun t103 => (if t103 = true then ((spec_l1In.f a0_6 0 1000).bind fun t104 => (if t104 = true then ((spec_l1In.f a0_7 0 1000).bind fun t105 => (if t105 = true then (if (l0_8.length : Int) > 30 then (spec_GoodGreet.j0 k true a0_0 a0_1 a0_2 a0_3 a0_4 a0_5 a0_6 a0_7 l0_8 l0_9 l0_10) else (if (l0_9.length : Int) > 300 then (spec_GoodGreet.j0 k true a0_0 a0_1 a0_2 a0_3 a0_4 a0_5 a0_6 a0_7 l0_8 l0_9 l0_10) else (spec_GoodGreet.j0 k (decide ((l0_10.length : Int) > 300)) a0_0 a0_1 a0_2 a0_3 a0_4 a0_5 a0_6 a0_7 l0_8 l0_9 l0_10))) else (spec_GoodGreet.j0 k true a0_0 a0_1 a0_2 a0_3 a0_4 a0_5 a0_6 a0_7 l0_8 l0_9 l0_10))) else (spec_GoodGreet.j0 k true a0_0 a0_1 a0_2 a0_3 a0_4 a0_5 a0_6 a0_7 l0_8 l0_9 l0_10))) else (spec_GoodGreet.j0 k true a0_0 a0_1 a0_2 a0_3 a0_4 a0_5 a0_6 a0_7 l0_8 l0_9 l0_10))) else (spec_GoodGreet.j0 k true a0_0 a0_1 a0_2 a0_3 a0_4 a0_5 a0_6 a0_7 l0_8 l0_9 l0_10)) = some r := H
  have A4 := sA A40
  clear A40
  by_cases c5 : t102 = true
  ·subst c5
   have H1 : ((spec_l1In.f a0_1 0 2).bind fun t103 => (if t103 = true then ((spec_l1In.f a0_6 0 1000).bind fun t104 => (if t104 = true then ((spec_l1In.f a0_7 0 1000).bind fun t105 => (if t105 = true then (if (l0_8.length : Int) > 30 then (spec_GoodGreet.j0 k true a0_0 a0_1 a0_2 a0_3 a0_4 a0_5 a0_6 a0_7 l0_8 l0_9 l0_10) else (if (l0_9.length : Int) > 300 then (spec_GoodGreet.j0 k true a0_0 a0_1 a0_2 a0_3 a0_4 a0_5 a0_6 a0_7 l0_8 l0_9 l0_10) else (spec_GoodGreet.j0 k (decide ((l0_10.length : Int) > 300)) a0_0 a0_1 a0_2 a0_3 a0_4 a0_5 a0_6 a0_7 l0_8 l0_9 l0_10))) else (spec_GoodGreet.j0 k true a0_0 a0_1 a0_2 a0_3 a0_4 a0_5 a0_6 a0_7 l0_8 l0_9 l0_10))) else (spec_GoodGreet.j0 k true a0_0 a0_1 a0_2 a0_3 a0_4 a0_5 a0_6 a0_7 l0_8 l0_9 l0_10))) else (spec_GoodGreet.j0 k true a0_0 a0_1 a0_2 a0_3 a0_4 a0_5 a0_6 a0_7 l0_8 l0_9 l0_10))) = some r := by rw [if_pos rfl] at H; exact H
   clear H
   have H := H1
   clear H1
   replace H := Option.bind_eq_some_iff.mp H
   obtain ⟨t103, A60, H⟩ := H
   replace H : (if t103 = true then ((spec_l1In.f a0_6 0 1000).bind fun t104 => (if t104 = true then ((spec_l1In.f a0_7 0 1000).bind fun t105 => (if t105 = true then (if (l0_8.length : Int) > 30 then (spec_GoodGreet.j0 k true a0_0 a0_1 a0_2 a0_3 a0_4 a0_5 a0_6 a0_7 l0_8 l0_9 l0_10) else (if (l0_9.length : Int) > 300 then (spec_GoodGreet.j0 k true a0_0 a0_1 a0_2 a0_3 a0_4 a0_5 a0_6 a0_7 l0_8 l0_9 l0_10) else (spec_GoodGreet.j0 k (decide ((l0_10.length : Int) > 300)) a0_0 a0_1 a0_2 a0_3 a0_4 a0_5 a0_6 a0_7 l0_8 l0_9 l0_10))) else (spec_GoodGreet.j0 k true a0_0 a0_1 a0_2 a0_3 a0_4 a0_5 a0_6 a0_7 l0_8 l0_9 l0_10))) else (spec_GoodGreet.j0 k true a0_0 a0_1 a0_2 a0_3 a0_4 a0_5 a0_6 a0_7 l0_8 l0_9 l0_10))) else (spec_GoodGreet.j0 k true a0_0 a0_1 a0_2 a0_3 a0_4 a0_5 a0_6 a0_7 l0_8 l0_9 l0_10)) = some r := H
   have A6 := sA A60
   clear A60
   by_cases c7 : t103 = true
   ·subst c7
    have H1 : ((spec_l1In.f a0_6 0 1000).bind fun t104 => (if t104 = true then ((spec_l1In.f a0_7 0 1000).bind fun t105 => (if t105 = true then (if (l0_8.length : Int) > 30 then (spec_GoodGreet.j0 k true a0_0 a0_1 a0_2 a0_3 a0_4 a0_5 a0_6 a0_7 l0_8 l0_9 l0_10) else (if (l0_9.length : Int) > 300 then (spec_GoodGreet.j0 k true a0_0 a0_1 a0_2 a0_3 a0_4 a0_5 a0_6 a0_7 l0_8 l0_9 l0_10) else (spec_GoodGreet.j0 k (decide ((l0_10.length : Int) > 300)) a0_0 a0_1 a0_2 a0_3 a0_4 a0_5 a0_6 a0_7 l0_8 l0_9 l0_10))) else (spec_GoodGreet.j0 k true a0_0 a0_1 a0_2 a0_3 a0_4 a0_5 a0_6 a0_7 l0_8 l0_9 l0_10))) else (spec_GoodGreet.j0 k true a0_0 a0_1 a0_2 a0_3 a0_4 a0_5 a0_6 a0_7 l0_8 l0_9 l0_10))) = some r := by rw [if_pos rfl] at H; exact H
    clear H
    have H := H1
    clear H1
    replace H := Option.bind_eq_some_iff.mp H
    obtain ⟨t104, A80, H⟩ := H
    replace H : (if t104 = true then ((spec_l1In.f a0_7 0 1000).bind fun t105 => (if t105 = true then (if (l0_8.length : Int) > 30 then (spec_GoodGreet.j0 k true a0_0 a0_1 a0_2 a0_3 a0_4 a0_5 a0_6 a0_7 l0_8 l0_9 l0_10) else (if (l0_9.length : Int) > 300 then (spec_GoodGreet.j0 k true a0_0 a0_1 a0_2 a0_3 a0_4 a0_5 a0_6 a0_7 l0_8 l0_9 l0_10) else (spec_GoodGreet.j0 k (decide ((l0_10.length : Int) > 300)) a0_0 a0_1 a0_2 a0_3 a0_4 a0_5 a0_6 a0_7 l0_8 l0_9 l0_10))) else (spec_GoodGreet.j0 k true a0_0 a0_1 a0_2 a0_3 a0_4 a0_5 a0_6 a0_7 l0_8 l0_9 l0_10))) else (spec_GoodGreet.j0 k true a0_0 a0_1 a0_2 a0_3 a0_4 a0_5 a0_6 a0_7 l0_8 l0_9 l0_10)) = some r := H
    have A8 := sA A80
    clear A80
    by_cases c9 : t104 = true
    ·subst c9
     have H1 : ((spec_l1In.f a0_7 0 1000).bind fun t105 => (if t105 = true then (if (l0_8.length : Int) > 30 then (spec_GoodGreet.j0 k true a0_0 a0_1 a0_2 a0_3 a0_4 a0_5 a0_6 a0_7 l0_8 l0_9 l0_10) else (if (l0_9.length : Int) > 300 then (spec_GoodGreet.j0 k true a0_0 a0_1 a0_2 a0_3 a0_4 a0_5 a0_6 a0_7 l0_8 l0_9 l0_10) else (spec_GoodGreet.j0 k (decide ((l0_10.length : Int) > 300)) a0_0 a0_1 a0_2 a0_3 a0_4 a0_5 a0_6 a0_7 l0_8 l0_9 l0_10))) else (spec_GoodGreet.j0 k true a0_0 a0_1 a0_2 a0_3 a0_4 a0_5 a0_6 a0_7 l0_8 l0_9 l0_10))) = some r := by rw [if_pos rfl] at H; exact H
     clear H
     have H := H1
     clear H1
     replace H := Option.bind_eq_some_iff.mp H
     obtain ⟨t105, A100, H⟩ := H
     replace H : (if t105 = true then (if (l0_8.length : Int) > 30 then (spec_GoodGreet.j0 k true a0_0 a0_1 a0_2 a0_3 a0_4 a0_5 a0_6 a0_7 l0_8 l0_9 l0_10) else (if (l0_9.length : Int) > 300 then (spec_GoodGreet.j0 k true a0_0 a0_1 a0_2 a0_3 a0_4 a0_5 a0_6 a0_7 l0_8 l0_9 l0_10) else (spec_GoodGreet.j0 k (decide ((l0_10.length : Int) > 300)) a0_0 a0_1 a0_2 a0_3 a0_4 a0_5 a0_6 a0_7 l0_8 l0_9 l0_10))) else (spec_GoodGreet.j0 k true a0_0 a0_1 a0_2 a0_3 a0_4 a0_5 a0_6 a0_7 l0_8 l0_9 l0_10)) = some r := H
     have A10 := sA A100
     clear A100
     by_cases c11 : t105 = true
     ·subst c11
      have H1 : (if (l0_8.length : Int) > 30 then (spec_GoodGreet.j0 k true a0_0 a0_1 a0_2 a0_3 a0_4 a0_5 a0_6 a0_7 l0_8 l0_9 l0_10) else (if (l0_9.length : Int) > 300 then (spec_GoodGreet.j0 k true a0_0 a0_1 a0_2 a0_3 a0_4 a0_5 a0_6 a0_7 l0_8 l0_9 l0_10) else (spec_GoodGreet.j0 k (decide ((l0_10.length : Int) > 300)) a0_0 a0_1 a0_2 a0_3 a0_4 a0_5 a0_6 a0_7 l0_8 l0_9 l0_10))) = some r := by rw [if_pos rfl] at H; exact H
      clear H
      have H := H1
      clear H1
      by_cases c12 : (l0_8.length : Int) > 30
      ·rw [if_pos c12] at H
       have c12b0 : decide (30 < (l0_8.length : Int)) = true := decide_eq_true c12
       have c12b1 : decide (30 < l0_8.length) = true := decide_eq_true (by omega)
       clear c12
       (first | rw [c12b0] | (simp only [i64_w, i32_w]; rw [c12b0]) | skip)
       have H' := sA H
       clear H
       have hcz13_0 : w3.cell? ⟨gb101, 0, none⟩ = some (.int .i64 a0_0) := sC BK101 0 rfl
       have hcz13_1 : w3.cell? ⟨gb101, 1, none⟩ = some (.int .i64 a0_1) := sC BK101 1 rfl
       have hcz13_2 : w3.cell? ⟨gb101, 2, none⟩ = some (.int .i64 a0_2) := sC BK101 2 rfl
       have hcz13_3 : w3.cell? ⟨gb101, 3, none⟩ = some (.int .i64 a0_3) := sC BK101 3 rfl
       have hcz13_4 : w3.cell? ⟨gb101, 4, none⟩ = some (.int .i64 a0_4) := sC BK101 4 rfl
       have hcz13_5 : w3.cell? ⟨gb101, 5, none⟩ = some (.int .i64 a0_5) := sC BK101 5 rfl
       have hcz13_6 : w3.cell? ⟨gb101, 6, none⟩ = some (.int .i64 a0_6) := sC BK101 6 rfl
       have hcz13_7 : w3.cell? ⟨gb101, 7, none⟩ = some (.int .i64 a0_7) := sC BK101 7 rfl
       have hcz13_8 : w3.cell? ⟨gb101, 8, none⟩ = some (.slice A0_8 l0_8.length c0_8) := sC BK101 8 rfl
       have hcz13_9 : w3.cell? ⟨gb101, 9, none⟩ = some (.slice A0_9 l0_9.length c0_9) := sC BK101 9 rfl
       have hcz13_10 : w3.cell? ⟨gb101, 10, none⟩ = some (.slice A0_10 l0_10.length c0_10) := sC BK101 10 rfl
       have hfz13_0 := blk_frozen BK101.out 0
       have hfz13_1 := blk_frozen BK101.out 1
       have hfz13_2 := blk_frozen BK101.out 2
       have hfz13_3 := blk_frozen BK101.out 3
       have hfz13_4 := blk_frozen BK101.out 4
       have hfz13_5 := blk_frozen BK101.out 5
       have hfz13_6 := blk_frozen BK101.out 6
       have hfz13_7 := blk_frozen BK101.out 7
       have hfz13_8 := blk_frozen BK101.out 8
       have hfz13_9 := blk_frozen BK101.out 9
       have hfz13_10 := blk_frozen BK101.out 10
       go_wp2_with (first | ((with_reducible refine gate_callee (f := 21) rfl ?_); refine goesL_ (some 9) rfl rfl Try.func21 (by kernel_rfl) rfl #[.int .i64 a0_0, .int .i64 0, .int .i64 2] rfl (by (try simp only [List.map_toArray, List.map_cons, List.map_nil]); first | done | rfl | (simp only [List.length_drop, List.length_take]; rfl)) ?_; (with_reducible refine (spec_l1In.calls a0_0 0 2 true _ A4.out).mono ?_); rintro e w' ⟨rfl, ⟨nd, rfl⟩⟩; refine ⟨_, rfl, ?_⟩) | (go_at_call 21; (with_reducible refine (spec_l1In.calls a0_1 0 2 true _ A6.out).mono ?_); rintro e w' ⟨rfl, ⟨nd, rfl⟩⟩) | (go_at_call 21; (with_reducible refine (spec_l1In.calls a0_6 0 1000 true _ A8.out).mono ?_); rintro e w' ⟨rfl, ⟨nd, rfl⟩⟩) | (go_at_call 21; (with_reducible refine (spec_l1In.calls a0_7 0 1000 true _ A10.out).mono ?_); rintro e w' ⟨rfl, ⟨nd, rfl⟩⟩))
       go_meet
       case rel => exact ⟨_, (true), (by first | rfl | (simp; done) | (simp [*]; done)), H', ⟨by first | omega | exact Nat.le_refl _⟩, ⟨sB BK101.out⟩, ⟨by repeat (first | (with_reducible first | exact HB.out | apply sLA | apply sLN | apply sLD | refine sLS ?_ GE101.out) | exact HB.out)⟩⟩
      ·rw [if_neg c12] at H
       have c12b0 : decide (30 < (l0_8.length : Int)) = false := decide_eq_false c12
       have c12b1 : decide (30 < l0_8.length) = false := decide_eq_false (by omega)
       clear c12
       (first | rw [c12b0] | (simp only [i64_w, i32_w]; rw [c12b0]) | skip)
       by_cases c14 : (l0_9.length : Int) > 300
       ·rw [if_pos c14] at H
        have c14b0 : decide (300 < (l0_9.length : Int)) = true := decide_eq_true c14
        have c14b1 : decide (300 < l0_9.length) = true := decide_eq_true (by omega)
        clear c14
        have H' := sA H
        clear H
        have hcz15_0 : w3.cell? ⟨gb101, 0, none⟩ = some (.int .i64 a0_0) := sC BK101 0 rfl
        have hcz15_1 : w3.cell? ⟨gb101, 1, none⟩ = some (.int .i64 a0_1) := sC BK101 1 rfl
        have hcz15_2 : w3.cell? ⟨gb101, 2, none⟩ = some (.int .i64 a0_2) := sC BK101 2 rfl
        have hcz15_3 : w3.cell? ⟨gb101, 3, none⟩ = some (.int .i64 a0_3) := sC BK101 3 rfl
        have hcz15_4 : w3.cell? ⟨gb101, 4, none⟩ = some (.int .i64 a0_4) := sC BK101 4 rfl
        have hcz15_5 : w3.cell? ⟨gb101, 5, none⟩ = some (.int .i64 a0_5) := sC BK101 5 rfl
        have hcz15_6 : w3.cell? ⟨gb101, 6, none⟩ = some (.int .i64 a0_6) := sC BK101 6 rfl
        have hcz15_7 : w3.cell? ⟨gb101, 7, none⟩ = some (.int .i64 a0_7) := sC BK101 7 rfl
        have hcz15_8 : w3.cell? ⟨gb101, 8, none⟩ = some (.slice A0_8 l0_8.length c0_8) := sC BK101 8 rfl
        have hcz15_9 : w3.cell? ⟨gb101, 9, none⟩ = some (.slice A0_9 l0_9.length c0_9) := sC BK101 9 rfl
        have hcz15_10 : w3.cell? ⟨gb101, 10, none⟩ = some (.slice A0_10 l0_10.length c0_10) := sC BK101 10 rfl
        have hfz15_0 := blk_frozen BK101.out 0
        have hfz15_1 := blk_frozen BK101.out 1
        have hfz15_2 := blk_frozen BK101.out 2
        have hfz15_3 := blk_frozen BK101.out 3
        have hfz15_4 := blk_frozen BK101.out 4
        have hfz15_5 := blk_frozen BK101.out 5
        have hfz15_6 := blk_frozen BK101.out 6
        have hfz15_7 := blk_frozen BK101.out 7
        have hfz15_8 := blk_frozen BK101.out 8
        have hfz15_9 := blk_frozen BK101.out 9
        have hfz15_10 := blk_frozen BK101.out 10
        go_wp2_with (first | ((with_reducible refine gate_callee (f := 21) rfl ?_); refine goesL_ (some 9) rfl rfl Try.func21 (by kernel_rfl) rfl #[.int .i64 a0_0, .int .i64 0, .int .i64 2] rfl (by (try simp only [List.map_toArray, List.map_cons, List.map_nil]); first | done | rfl | (simp only [List.length_drop, List.length_take]; rfl)) ?_; (with_reducible refine (spec_l1In.calls a0_0 0 2 true _ A4.out).mono ?_); rintro e w' ⟨rfl, ⟨nd, rfl⟩⟩; refine ⟨_, rfl, ?_⟩) | (go_at_call 21; (with_reducible refine (spec_l1In.calls a0_1 0 2 true _ A6.out).mono ?_); rintro e w' ⟨rfl, ⟨nd, rfl⟩⟩) | (go_at_call 21; (with_reducible refine (spec_l1In.calls a0_6 0 1000 true _ A8.out).mono ?_); rintro e w' ⟨rfl, ⟨nd, rfl⟩⟩) | (go_at_call 21; (with_reducible refine (spec_l1In.calls a0_7 0 1000 true _ A10.out).mono ?_); rintro e w' ⟨rfl, ⟨nd, rfl⟩⟩))
        go_meet
        case rel => exact ⟨_, (true), (by first | rfl | (simp; done) | (simp [*]; done)), H', ⟨by first | omega | exact Nat.le_refl _⟩, ⟨sB BK101.out⟩, ⟨by repeat (first | (with_reducible first | exact HB.out | apply sLA | apply sLN | apply sLD | refine sLS ?_ GE101.out) | exact HB.out)⟩⟩
       ·rw [if_neg c14] at H
        have c14b0 : decide (300 < (l0_9.length : Int)) = false := decide_eq_false c14
        have c14b1 : decide (300 < l0_9.length) = false := decide_eq_false (by omega)
        clear c14
        have H' := sA H
        clear H
        have hcz16_0 : w3.cell? ⟨gb101, 0, none⟩ = some (.int .i64 a0_0) := sC BK101 0 rfl
        have hcz16_1 : w3.cell? ⟨gb101, 1, none⟩ = some (.int .i64 a0_1) := sC BK101 1 rfl
        have hcz16_2 : w3.cell? ⟨gb101, 2, none⟩ = some (.int .i64 a0_2) := sC BK101 2 rfl
        have hcz16_3 : w3.cell? ⟨gb101, 3, none⟩ = some (.int .i64 a0_3) := sC BK101 3 rfl
        have hcz16_4 : w3.cell? ⟨gb101, 4, none⟩ = some (.int .i64 a0_4) := sC BK101 4 rfl
        have hcz16_5 : w3.cell? ⟨gb101, 5, none⟩ = some (.int .i64 a0_5) := sC BK101 5 rfl
        have hcz16_6 : w3.cell? ⟨gb101, 6, none⟩ = some (.int .i64 a0_6) := sC BK101 6 rfl
        have hcz16_7 : w3.cell? ⟨gb101, 7, none⟩ = some (.int .i64 a0_7) := sC BK101 7 rfl
        have hcz16_8 : w3.cell? ⟨gb101, 8, none⟩ = some (.slice A0_8 l0_8.length c0_8) := sC BK101 8 rfl
        have hcz16_9 : w3.cell? ⟨gb101, 9, none⟩ = some (.slice A0_9 l0_9.length c0_9) := sC BK101 9 rfl
        have hcz16_10 : w3.cell? ⟨gb101, 10, none⟩ = some (.slice A0_10 l0_10.length c0_10) := sC BK101 10 rfl
        have hfz16_0 := blk_frozen BK101.out 0
        have hfz16_1 := blk_frozen BK101.out 1
        have hfz16_2 := blk_frozen BK101.out 2
        have hfz16_3 := blk_frozen BK101.out 3
        have hfz16_4 := blk_frozen BK101.out 4
        have hfz16_5 := blk_frozen BK101.out 5
        have hfz16_6 := blk_frozen BK101.out 6
        have hfz16_7 := blk_frozen BK101.out 7
        have hfz16_8 := blk_frozen BK101.out 8
        have hfz16_9 := blk_frozen BK101.out 9
        have hfz16_10 := blk_frozen BK101.out 10
        go_wp2_with (first | ((with_reducible refine gate_callee (f := 21) rfl ?_); refine goesL_ (some 9) rfl rfl Try.func21 (by kernel_rfl) rfl #[.int .i64 a0_0, .int .i64 0, .int .i64 2] rfl (by (try simp only [List.map_toArray, List.map_cons, List.map_nil]); first | done | rfl | (simp only [List.length_drop, List.length_take]; rfl)) ?_; (with_reducible refine (spec_l1In.calls a0_0 0 2 true _ A4.out).mono ?_); rintro e w' ⟨rfl, ⟨nd, rfl⟩⟩; refine ⟨_, rfl, ?_⟩) | (go_at_call 21; (with_reducible refine (spec_l1In.calls a0_1 0 2 true _ A6.out).mono ?_); rintro e w' ⟨rfl, ⟨nd, rfl⟩⟩) | (go_at_call 21; (with_reducible refine (spec_l1In.calls a0_6 0 1000 true _ A8.out).mono ?_); rintro e w' ⟨rfl, ⟨nd, rfl⟩⟩) | (go_at_call 21; (with_reducible refine (spec_l1In.calls a0_7 0 1000 true _ A10.out).mono ?_); rintro e w' ⟨rfl, ⟨nd, rfl⟩⟩))
        go_meet
        case rel => exact ⟨_, (decide ((l0_10.length : Int) > 300)), (by first | rfl | (simp; done) | (simp [*]; done)), H', ⟨by first | omega | exact Nat.le_refl _⟩, ⟨sB BK101.out⟩, ⟨by repeat (first | (with_reducible first | exact HB.out | apply sLA | apply sLN | apply sLD | refine sLS ?_ GE101.out) | exact HB.out)⟩⟩
     ·replace c11 := Bool.eq_false_iff.mpr c11
      subst c11
      have H1 : (spec_GoodGreet.j0 k true a0_0 a0_1 a0_2 a0_3 a0_4 a0_5 a0_6 a0_7 l0_8 l0_9 l0_10) = some r := by rw [if_neg (show ¬ (false = true) by decide)] at H; exact H
      clear H
      have H := H1
      clear H1
      have H' := sA H
      clear H
      have hcz17_0 : w3.cell? ⟨gb101, 0, none⟩ = some (.int .i64 a0_0) := sC BK101 0 rfl
      have hcz17_1 : w3.cell? ⟨gb101, 1, none⟩ = some (.int .i64 a0_1) := sC BK101 1 rfl
      have hcz17_2 : w3.cell? ⟨gb101, 2, none⟩ = some (.int .i64 a0_2) := sC BK101 2 rfl
      have hcz17_3 : w3.cell? ⟨gb101, 3, none⟩ = some (.int .i64 a0_3) := sC BK101 3 rfl
      have hcz17_4 : w3.cell? ⟨gb101, 4, none⟩ = some (.int .i64 a0_4) := sC BK101 4 rfl
      have hcz17_5 : w3.cell? ⟨gb101, 5, none⟩ = some (.int .i64 a0_5) := sC BK101 5 rfl
      have hcz17_6 : w3.cell? ⟨gb101, 6, none⟩ = some (.int .i64 a0_6) := sC BK101 6 rfl
      have hcz17_7 : w3.cell? ⟨gb101, 7, none⟩ = some (.int .i64 a0_7) := sC BK101 7 rfl
      have hcz17_8 : w3.cell? ⟨gb101, 8, none⟩ = some (.slice A0_8 l0_8.length c0_8) := sC BK101 8 rfl
      have hcz17_9 : w3.cell? ⟨gb101, 9, none⟩ = some (.slice A0_9 l0_9.length c0_9) := sC BK101 9 rfl
      have hcz17_10 : w3.cell? ⟨gb101, 10, none⟩ = some (.slice A0_10 l0_10.length c0_10) := sC BK101 10 rfl
      have hfz17_0 := blk_frozen BK101.out 0
      have hfz17_1 := blk_frozen BK101.out 1
      have hfz17_2 := blk_frozen BK101.out 2
      have hfz17_3 := blk_frozen BK101.out 3
      have hfz17_4 := blk_frozen BK101.out 4
      have hfz17_5 := blk_frozen BK101.out 5
      have hfz17_6 := blk_frozen BK101.out 6
      have hfz17_7 := blk_frozen BK101.out 7
      have hfz17_8 := blk_frozen BK101.out 8
      have hfz17_9 := blk_frozen BK101.out 9
      have hfz17_10 := blk_frozen BK101.out 10
      go_wp2_with (first | ((with_reducible refine gate_callee (f := 21) rfl ?_); refine goesL_ (some 9) rfl rfl Try.func21 (by kernel_rfl) rfl #[.int .i64 a0_0, .int .i64 0, .int .i64 2] rfl (by (try simp only [List.map_toArray, List.map_cons, List.map_nil]); first | done | rfl | (simp only [List.length_drop, List.length_take]; rfl)) ?_; (with_reducible refine (spec_l1In.calls a0_0 0 2 true _ A4.out).mono ?_); rintro e w' ⟨rfl, ⟨nd, rfl⟩⟩; refine ⟨_, rfl, ?_⟩) | (go_at_call 21; (with_reducible refine (spec_l1In.calls a0_1 0 2 true _ A6.out).mono ?_); rintro e w' ⟨rfl, ⟨nd, rfl⟩⟩) | (go_at_call 21; (with_reducible refine (spec_l1In.calls a0_6 0 1000 true _ A8.out).mono ?_); rintro e w' ⟨rfl, ⟨nd, rfl⟩⟩) | (go_at_call 21; (with_reducible refine (spec_l1In.calls a0_7 0 1000 false _ A10.out).mono ?_); rintro e w' ⟨rfl, ⟨nd, rfl⟩⟩))
      go_meet
      case rel => exact ⟨_, (true), (by first | rfl | (simp; done) | (simp [*]; done)), H', ⟨by first | omega | exact Nat.le_refl _⟩, ⟨sB BK101.out⟩, ⟨by repeat (first | (with_reducible first | exact HB.out | apply sLA | apply sLN | apply sLD | refine sLS ?_ GE101.out) | exact HB.out)⟩⟩
    ·replace c9 := Bool.eq_false_iff.mpr c9
     subst c9
     have H1 : (spec_GoodGreet.j0 k true a0_0 a0_1 a0_2 a0_3 a0_4 a0_5 a0_6 a0_7 l0_8 l0_9 l0_10) = some r := by rw [if_neg (show ¬ (false = true) by decide)] at H; exact H
     clear H
     have H := H1
     clear H1
     have H' := sA H
     clear H
     have hcz18_0 : w3.cell? ⟨gb101, 0, none⟩ = some (.int .i64 a0_0) := sC BK101 0 rfl
     have hcz18_1 : w3.cell? ⟨gb101, 1, none⟩ = some (.int .i64 a0_1) := sC BK101 1 rfl
     have hcz18_2 : w3.cell? ⟨gb101, 2, none⟩ = some (.int .i64 a0_2) := sC BK101 2 rfl
     have hcz18_3 : w3.cell? ⟨gb101, 3, none⟩ = some (.int .i64 a0_3) := sC BK101 3 rfl
     have hcz18_4 : w3.cell? ⟨gb101, 4, none⟩ = some (.int .i64 a0_4) := sC BK101 4 rfl
     have hcz18_5 : w3.cell? ⟨gb101, 5, none⟩ = some (.int .i64 a0_5) := sC BK101 5 rfl
     have hcz18_6 : w3.cell? ⟨gb101, 6, none⟩ = some (.int .i64 a0_6) := sC BK101 6 rfl
     have hcz18_7 : w3.cell? ⟨gb101, 7, none⟩ = some (.int .i64 a0_7) := sC BK101 7 rfl
     have hcz18_8 : w3.cell? ⟨gb101, 8, none⟩ = some (.slice A0_8 l0_8.length c0_8) := sC BK101 8 rfl
     have hcz18_9 : w3.cell? ⟨gb101, 9, none⟩ = some (.slice A0_9 l0_9.length c0_9) := sC BK101 9 rfl
     have hcz18_10 : w3.cell? ⟨gb101, 10, none⟩ = some (.slice A0_10 l0_10.length c0_10) := sC BK101 10 rfl
     have hfz18_0 := blk_frozen BK101.out 0
     have hfz18_1 := blk_frozen BK101.out 1
     have hfz18_2 := blk_frozen BK101.out 2
     have hfz18_3 := blk_frozen BK101.out 3
     have hfz18_4 := blk_frozen BK101.out 4
     have hfz18_5 := blk_frozen BK101.out 5
     have hfz18_6 := blk_frozen BK101.out 6
     have hfz18_7 := blk_frozen BK101.out 7
     have hfz18_8 := blk_frozen BK101.out 8
     have hfz18_9 := blk_frozen BK101.out 9
     have hfz18_10 := blk_frozen BK101.out 10
     go_wp2_with (first | ((with_reducible refine gate_callee (f := 21) rfl ?_); refine goesL_ (some 9) rfl rfl Try.func21 (by kernel_rfl) rfl #[.int .i64 a0_0, .int .i64 0, .int .i64 2] rfl (by (try simp only [List.map_toArray, List.map_cons, List.map_nil]); first | done | rfl | (simp only [List.length_drop, List.length_take]; rfl)) ?_; (with_reducible refine (spec_l1In.calls a0_0 0 2 true _ A4.out).mono ?_); rintro e w' ⟨rfl, ⟨nd, rfl⟩⟩; refine ⟨_, rfl, ?_⟩) | (go_at_call 21; (with_reducible refine (spec_l1In.calls a0_1 0 2 true _ A6.out).mono ?_); rintro e w' ⟨rfl, ⟨nd, rfl⟩⟩) | (go_at_call 21; (with_reducible refine (spec_l1In.calls a0_6 0 1000 false _ A8.out).mono ?_); rintro e w' ⟨rfl, ⟨nd, rfl⟩⟩))
     go_meet
     case rel => exact ⟨_, (true), (by first | rfl | (simp; done) | (simp [*]; done)), H', ⟨by first | omega | exact Nat.le_refl _⟩, ⟨sB BK101.out⟩, ⟨by repeat (first | (with_reducible first | exact HB.out | apply sLA | apply sLN | apply sLD | refine sLS ?_ GE101.out) | exact HB.out)⟩⟩
   ·replace c7 := Bool.eq_false_iff.mpr c7
    subst c7
    have H1 : (spec_GoodGreet.j0 k true a0_0 a0_1 a0_2 a0_3 a0_4 a0_5 a0_6 a0_7 l0_8 l0_9 l0_10) = some r := by rw [if_neg (show ¬ (false = true) by decide)] at H; exact H
    clear H
    have H := H1
    clear H1
    have H' := sA H
    clear H
    have hcz19_0 : w3.cell? ⟨gb101, 0, none⟩ = some (.int .i64 a0_0) := sC BK101 0 rfl
    have hcz19_1 : w3.cell? ⟨gb101, 1, none⟩ = some (.int .i64 a0_1) := sC BK101 1 rfl
    have hcz19_2 : w3.cell? ⟨gb101, 2, none⟩ = some (.int .i64 a0_2) := sC BK101 2 rfl
    have hcz19_3 : w3.cell? ⟨gb101, 3, none⟩ = some (.int .i64 a0_3) := sC BK101 3 rfl
    have hcz19_4 : w3.cell? ⟨gb101, 4, none⟩ = some (.int .i64 a0_4) := sC BK101 4 rfl
    have hcz19_5 : w3.cell? ⟨gb101, 5, none⟩ = some (.int .i64 a0_5) := sC BK101 5 rfl
    have hcz19_6 : w3.cell? ⟨gb101, 6, none⟩ = some (.int .i64 a0_6) := sC BK101 6 rfl
    have hcz19_7 : w3.cell? ⟨gb101, 7, none⟩ = some (.int .i64 a0_7) := sC BK101 7 rfl
    have hcz19_8 : w3.cell? ⟨gb101, 8, none⟩ = some (.slice A0_8 l0_8.length c0_8) := sC BK101 8 rfl
    have hcz19_9 : w3.cell? ⟨gb101, 9, none⟩ = some (.slice A0_9 l0_9.length c0_9) := sC BK101 9 rfl
    have hcz19_10 : w3.cell? ⟨gb101, 10, none⟩ = some (.slice A0_10 l0_10.length c0_10) := sC BK101 10 rfl
    have hfz19_0 := blk_frozen BK101.out 0
    have hfz19_1 := blk_frozen BK101.out 1
    have hfz19_2 := blk_frozen BK101.out 2
    have hfz19_3 := blk_frozen BK101.out 3
    have hfz19_4 := blk_frozen BK101.out 4
    have hfz19_5 := blk_frozen BK101.out 5
    have hfz19_6 := blk_frozen BK101.out 6
    have hfz19_7 := blk_frozen BK101.out 7
    have hfz19_8 := blk_frozen BK101.out 8
    have hfz19_9 := blk_frozen BK101.out 9
    have hfz19_10 := blk_frozen BK101.out 10
    go_wp2_with (first | ((with_reducible refine gate_callee (f := 21) rfl ?_); refine goesL_ (some 9) rfl rfl Try.func21 (by kernel_rfl) rfl #[.int .i64 a0_0, .int .i64 0, .int .i64 2] rfl (by (try simp only [List.map_toArray, List.map_cons, List.map_nil]); first | done | rfl | (simp only [List.length_drop, List.length_take]; rfl)) ?_; (with_reducible refine (spec_l1In.calls a0_0 0 2 true _ A4.out).mono ?_); rintro e w' ⟨rfl, ⟨nd, rfl⟩⟩; refine ⟨_, rfl, ?_⟩) | (go_at_call 21; (with_reducible refine (spec_l1In.calls a0_1 0 2 false _ A6.out).mono ?_); rintro e w' ⟨rfl, ⟨nd, rfl⟩⟩))
    go_meet
    case rel => exact ⟨_, (true), (by first | rfl | (simp; done) | (simp [*]; done)), H', ⟨by first | omega | exact Nat.le_refl _⟩, ⟨sB BK101.out⟩, ⟨by repeat (first | (with_reducible first | exact HB.out | apply sLA | apply sLN | apply sLD | refine sLS ?_ GE101.out) | exact HB.out)⟩⟩
  ·replace c5 := Bool.eq_false_iff.mpr c5
   subst c5
   have H1 : (spec_GoodGreet.j0 k true a0_0 a0_1 a0_2 a0_3 a0_4 a0_5 a0_6 a0_7 l0_8 l0_9 l0_10) = some r := by rw [if_neg (show ¬ (false = true) by decide)] at H; exact H
   clear H
   have H := H1
   clear H1
   have H' := sA H
   clear H
   have hcz20_0 : w3.cell? ⟨gb101, 0, none⟩ = some (.int .i64 a0_0) := sC BK101 0 rfl
   have hcz20_1 : w3.cell? ⟨gb101, 1, none⟩ = some (.int .i64 a0_1) := sC BK101 1 rfl
   have hcz20_2 : w3.cell? ⟨gb101, 2, none⟩ = some (.int .i64 a0_2) := sC BK101 2 rfl
   have hcz20_3 : w3.cell? ⟨gb101, 3, none⟩ = some (.int .i64 a0_3) := sC BK101 3 rfl
   have hcz20_4 : w3.cell? ⟨gb101, 4, none⟩ = some (.int .i64 a0_4) := sC BK101 4 rfl
   have hcz20_5 : w3.cell? ⟨gb101, 5, none⟩ = some (.int .i64 a0_5) := sC BK101 5 rfl
   have hcz20_6 : w3.cell? ⟨gb101, 6, none⟩ = some (.int .i64 a0_6) := sC BK101 6 rfl
   have hcz20_7 : w3.cell? ⟨gb101, 7, none⟩ = some (.int .i64 a0_7) := sC BK101 7 rfl
   have hcz20_8 : w3.cell? ⟨gb101, 8, none⟩ = some (.slice A0_8 l0_8.length c0_8) := sC BK101 8 rfl
   have hcz20_9 : w3.cell? ⟨gb101, 9, none⟩ = some (.slice A0_9 l0_9.length c0_9) := sC BK101 9 rfl
   have hcz20_10 : w3.cell? ⟨gb101, 10, none⟩ = some (.slice A0_10 l0_10.length c0_10) := sC BK101 10 rfl
   have hfz20_0 := blk_frozen BK101.out 0
   have hfz20_1 := blk_frozen BK101.out 1
   have hfz20_2 := blk_frozen BK101.out 2
   have hfz20_3 := blk_frozen BK101.out 3
   have hfz20_4 := blk_frozen BK101.out 4
   have hfz20_5 := blk_frozen BK101.out 5
   have hfz20_6 := blk_frozen BK101.out 6
   have hfz20_7 := blk_frozen BK101.out 7
   have hfz20_8 := blk_frozen BK101.out 8
   have hfz20_9 := blk_frozen BK101.out 9
   have hfz20_10 := blk_frozen BK101.out 10
   go_wp2_with (first | ((with_reducible refine gate_callee (f := 21) rfl ?_); refine goesL_ (some 9) rfl rfl Try.func21 (by kernel_rfl) rfl #[.int .i64 a0_0, .int .i64 0, .int .i64 2] rfl (by (try simp only [List.map_toArray, List.map_cons, List.map_nil]); first | done | rfl | (simp only [List.length_drop, List.length_take]; rfl)) ?_; (with_reducible refine (spec_l1In.calls a0_0 0 2 false _ A4.out).mono ?_); rintro e w' ⟨rfl, ⟨nd, rfl⟩⟩; refine ⟨_, rfl, ?_⟩))
   go_meet
   case rel => exact ⟨_, (true), (by first | rfl | (simp; done) | (simp [*]; done)), H', ⟨by first | omega | exact Nat.le_refl _⟩, ⟨sB BK101.out⟩, ⟨by repeat (first | (with_reducible first | exact HB.out | apply sLA | apply sLN | apply sLD | refine sLS ?_ GE101.out) | exact HB.out)⟩⟩
 case rest =>
  clear HC2
  try clear c1
  try clear c2
  try clear p2
  try clear c5
  try clear c7
  try clear c9
  try clear c11
  try clear c12
  try clear c12b0
  try clear c12b1
  try clear c14
  try clear c14b0
  try clear c14b1
  try clear hcz13_0
  try clear hcz13_1
  try clear hcz13_10
  try clear hcz13_2
  try clear hcz13_3
  try clear hcz13_4
  try clear hcz13_5
  try clear hcz13_6
  try clear hcz13_7
  try clear hcz13_8
  try clear hcz13_9
  try clear hcz15_0
  try clear hcz15_1
  try clear hcz15_10
  try clear hcz15_2
  try clear hcz15_3
  try clear hcz15_4
  try clear hcz15_5
  try clear hcz15_6
  try clear hcz15_7
  try clear hcz15_8
  try clear hcz15_9
  try clear hcz16_0
  try clear hcz16_1
  try clear hcz16_10
  try clear hcz16_2
  try clear hcz16_3
  try clear hcz16_4
  try clear hcz16_5
  try clear hcz16_6
  try clear hcz16_7
  try clear hcz16_8
  try clear hcz16_9
  try clear hcz17_0
  try clear hcz17_1
  try clear hcz17_10
  try clear hcz17_2
  try clear hcz17_3
  try clear hcz17_4
  try clear hcz17_5
  try clear hcz17_6
  try clear hcz17_7
  try clear hcz17_8
  try clear hcz17_9
  try clear hcz18_0
  try clear hcz18_1
  try clear hcz18_10
  try clear hcz18_2
  try clear hcz18_3
  try clear hcz18_4
  try clear hcz18_5
  try clear hcz18_6
  try clear hcz18_7
  try clear hcz18_8
  try clear hcz18_9
  try clear hcz19_0
  try clear hcz19_1
  try clear hcz19_10
  try clear hcz19_2
  try clear hcz19_3
  try clear hcz19_4
  try clear hcz19_5
  try clear hcz19_6
  try clear hcz19_7
  try clear hcz19_8
  try clear hcz19_9
  try clear hcz20_0
  try clear hcz20_1
  try clear hcz20_10
  try clear hcz20_2
  try clear hcz20_3
  try clear hcz20_4
  try clear hcz20_5
  try clear hcz20_6
  try clear hcz20_7
  try clear hcz20_8
  try clear hcz20_9
  try clear hfz13_0
  try clear hfz13_1
  try clear hfz13_10
  try clear hfz13_2
  try clear hfz13_3
  try clear hfz13_4
  try clear hfz13_5
  try clear hfz13_6
  try clear hfz13_7
  try clear hfz13_8
  try clear hfz13_9
  try clear hfz15_0
  try clear hfz15_1
  try clear hfz15_10
  try clear hfz15_2
  try clear hfz15_3
  try clear hfz15_4
  try clear hfz15_5
  try clear hfz15_6
  try clear hfz15_7
  try clear hfz15_8
  try clear hfz15_9
  try clear hfz16_0
  try clear hfz16_1
  try clear hfz16_10
  try clear hfz16_2
  try clear hfz16_3
  try clear hfz16_4
  try clear hfz16_5
  try clear hfz16_6
  try clear hfz16_7
  try clear hfz16_8
  try clear hfz16_9
  try clear hfz17_0
  try clear hfz17_1
  try clear hfz17_10
  try clear hfz17_2
  try clear hfz17_3
  try clear hfz17_4
  try clear hfz17_5
  try clear hfz17_6
  try clear hfz17_7
  try clear hfz17_8
  try clear hfz17_9
  try clear hfz18_0
  try clear hfz18_1
  try clear hfz18_10
  try clear hfz18_2
  try clear hfz18_3
  try clear hfz18_4
  try clear hfz18_5
  try clear hfz18_6
  try clear hfz18_7
  try clear hfz18_8
  try clear hfz18_9
  try clear hfz19_0
  try clear hfz19_1
  try clear hfz19_10
  try clear hfz19_2
  try clear hfz19_3
  try clear hfz19_4
  try clear hfz19_5
  try clear hfz19_6
  try clear hfz19_7
  try clear hfz19_8
  try clear hfz19_9
  try clear hfz20_0
  try clear hfz20_1
  try clear hfz20_10
  try clear hfz20_2
  try clear hfz20_3
  try clear hfz20_4
  try clear hfz20_5
  try clear hfz20_6
  try clear hfz20_7
  try clear hfz20_8
  try clear hfz20_9
  obtain ⟨kq, x46_1, rfl, HA, HJ1, BK101, HB⟩ := hcut
  cases kq with
  | zero => exact absurd HA.out (by simp [spec_GoodGreet.j0])
  | succ kj1 =>
   have H := HA.out
   clear HA
   simp only [spec_GoodGreet.j0] at H
   by_cases c21 : x46_1 = true
   ·subst c21
    have H1 : (some false) = some r := by rw [if_pos rfl] at H; exact H
    clear H
    have H := H1
    clear H1
    obtain rfl := Option.some.inj H
    go_wp2
    go_ret
    exact ⟨by first | rfl | (simp [errW_none, errW_some] <;> rfl) | (simp [*, errW_none, errW_some] <;> rfl), by repeat (first | (with_reducible first | exact HB.out | apply sLA | apply sLN | apply sLD | refine sLS ?_ GE101.out) | exact HB.out)⟩
   ·replace c21 := Bool.eq_false_iff.mpr c21
    subst c21
    have H1 : ((spec_l15Of.f a0_2 a0_6 (a0_0 == 0)).bind fun t106 => (if t106 = true then ((spec_l15Of.f a0_5 a0_7 (decide (a0_0 < 2))).bind fun t107 => (if t107 = true then ((spec_l15Of.f a0_4 a0_6 (a0_1 == 0)).bind fun t108 => (if t108 = true then ((spec_l15Of.f a0_3 a0_7 (a0_1 == 0)).bind fun t109 => (spec_GoodGreet.j1 kj1 (!t109) a0_0 a0_1 a0_2 a0_3 a0_4 a0_5 a0_6 a0_7 l0_8 l0_9 l0_10)) else (spec_GoodGreet.j1 kj1 true a0_0 a0_1 a0_2 a0_3 a0_4 a0_5 a0_6 a0_7 l0_8 l0_9 l0_10))) else (spec_GoodGreet.j1 kj1 true a0_0 a0_1 a0_2 a0_3 a0_4 a0_5 a0_6 a0_7 l0_8 l0_9 l0_10))) else (spec_GoodGreet.j1 kj1 true a0_0 a0_1 a0_2 a0_3 a0_4 a0_5 a0_6 a0_7 l0_8 l0_9 l0_10))) = some r := by rw [if_neg (show ¬ (false = true) by decide)] at H; exact H
    clear H
    have H := H1
    clear H1
    have HC22 := sA H
    clear H
    go_upto_region 3 with (fail)
    go_cut [88] (fun v88 wc => ∃ (kq : Nat) (x88_21 : Bool), v88 = .bool x88_21 ∧ Aside0 (spec_GoodGreet.j1 kq x88_21 a0_0 a0_1 a0_2 a0_3 a0_4 a0_5 a0_6 a0_7 l0_8 l0_9 l0_10 = some r) ∧ Aside0 (kq ≤ kj1) ∧ Aside0 (wc.heap[gb101]? = some (.cells #[.int .i64 a0_0, .int .i64 a0_1, .int .i64 a0_2, .int .i64 a0_3, .int .i64 a0_4, .int .i64 a0_5, .int .i64 a0_6, .int .i64 a0_7, (.slice A0_8 l0_8.length c0_8), (.slice A0_9 l0_9.length c0_9), (.slice A0_10 l0_10.length c0_10)] 24 (0, 0))) ∧ Aside0 (Below w.heap.size w wc))
    case first =>
     have H := HC22.out
     clear HC22
     replace H := Option.bind_eq_some_iff.mp H
     obtain ⟨t106, A230, H⟩ := H
     replace H : (if t106 = true then ((spec_l15Of.f a0_5 a0_7 (decide (a0_0 < 2))).bind fun t107 => (if t107 = true then ((spec_l15Of.f a0_4 a0_6 (a0_1 == 0)).bind fun t108 => (if t108 = true then ((spec_l15Of.f a0_3 a0_7 (a0_1 == 0)).bind fun t109 => (spec_GoodGreet.j1 kj1 (!t109) a0_0 a0_1 a0_2 a0_3 a0_4 a0_5 a0_6 a0_7 l0_8 l0_9 l0_10)) else (spec_GoodGreet.j1 kj1 true a0_0 a0_1 a0_2 a0_3 a0_4 a0_5 a0_6 a0_7 l0_8 l0_9 l0_10))) else (spec_GoodGreet.j1 kj1 true a0_0 a0_1 a0_2 a0_3 a0_4 a0_5 a0_6 a0_7 l0_8 l0_9 l0_10))) else (spec_GoodGreet.j1 kj1 true a0_0 a0_1 a0_2 a0_3 a0_4 a0_5 a0_6 a0_7 l0_8 l0_9 l0_10)) = some r := H
     have A23 := sA A230
     clear A230
     by_cases c24 : t106 = true
     ·subst c24
      have H1 : ((spec_l15Of.f a0_5 a0_7 (decide (a0_0 < 2))).bind fun t107 => (if t107 = true then ((spec_l15Of.f a0_4 a0_6 (a0_1 == 0)).bind fun t108 => (if t108 = true then ((spec_l15Of.f a0_3 a0_7 (a0_1 == 0)).bind fun t109 => (spec_GoodGreet.j1 kj1 (!t109) a0_0 a0_1 a0_2 a0_3 a0_4 a0_5 a0_6 a0_7 l0_8 l0_9 l0_10)) else (spec_GoodGreet.j1 kj1 true a0_0 a0_1 a0_2 a0_3 a0_4 a0_5 a0_6 a0_7 l0_8 l0_9 l0_10))) else (spec_GoodGreet.j1 kj1 true a0_0 a0_1 a0_2 a0_3 a0_4 a0_5 a0_6 a0_7 l0_8 l0_9 l0_10))) = some r := by rw [if_pos rfl] at H; exact H
      clear H
      have H := H1
      clear H1
      replace H := Option.bind_eq_some_iff.mp H
      obtain ⟨t107, A250, H⟩ := H
      replace H : (if t107 = true then ((spec_l15Of.f a0_4 a0_6 (a0_1 == 0)).bind fun t108 => (if t108 = true then ((spec_l15Of.f a0_3 a0_7 (a0_1 == 0)).bind fun t109 => (spec_GoodGreet.j1 kj1 (!t109) a0_0 a0_1 a0_2 a0_3 a0_4 a0_5 a0_6 a0_7 l0_8 l0_9 l0_10)) else (spec_GoodGreet.j1 kj1 true a0_0 a0_1 a0_2 a0_3 a0_4 a0_5 a0_6 a0_7 l0_8 l0_9 l0_10))) else (spec_GoodGreet.j1 kj1 true a0_0 a0_1 a0_2 a0_3 a0_4 a0_5 a0_6 a0_7 l0_8 l0_9 l0_10)) = some r := H
      have A25 := sA A250
      clear A250
      by_cases c26 : t107 = true
      ·subst c26
       have H1 : ((spec_l15Of.f a0_4 a0_6 (a0_1 == 0)).bind fun t108 => (if t108 = true then ((spec_l15Of.f a0_3 a0_7 (a0_1 == 0)).bind fun t109 => (spec_GoodGreet.j1 kj1 (!t109) a0_0 a0_1 a0_2 a0_3 a0_4 a0_5 a0_6 a0_7 l0_8 l0_9 l0_10)) else (spec_GoodGreet.j1 kj1 true a0_0 a0_1 a0_2 a0_3 a0_4 a0_5 a0_6 a0_7 l0_8 l0_9 l0_10))) = some r := by rw [if_pos rfl] at H; exact H
       clear H
       have H := H1
       clear H1
       replace H := Option.bind_eq_some_iff.mp H
       obtain ⟨t108, A270, H⟩ := H
       replace H : (if t108 = true then ((spec_l15Of.f a0_3 a0_7 (a0_1 == 0)).bind fun t109 => (spec_GoodGreet.j1 kj1 (!t109) a0_0 a0_1 a0_2 a0_3 a0_4 a0_5 a0_6 a0_7 l0_8 l0_9 l0_10)) else (spec_GoodGreet.j1 kj1 true a0_0 a0_1 a0_2 a0_3 a0_4 a0_5 a0_6 a0_7 l0_8 l0_9 l0_10)) = some r := H
       have A27 := sA A270
       clear A270
       by_cases c28 : t108 = true
       ·subst c28
        have H1 : ((spec_l15Of.f a0_3 a0_7 (a0_1 == 0)).bind fun t109 => (spec_GoodGreet.j1 kj1 (!t109) a0_0 a0_1 a0_2 a0_3 a0_4 a0_5 a0_6 a0_7 l0_8 l0_9 l0_10)) = some r := by rw [if_pos rfl] at H; exact H
        clear H
        have H := H1
        clear H1
        replace H := Option.bind_eq_some_iff.mp H
        obtain ⟨t109, A290, H⟩ := H
        replace H : (spec_GoodGreet.j1 kj1 (!t109) a0_0 a0_1 a0_2 a0_3 a0_4 a0_5 a0_6 a0_7 l0_8 l0_9 l0_10) = some r := H
        have A29 := sA A290
        clear A290
        have H' := sA H
        clear H
        have hcz30_0 : wc.cell? ⟨gb101, 0, none⟩ = some (.int .i64 a0_0) := sC BK101 0 rfl
        have hcz30_1 : wc.cell? ⟨gb101, 1, none⟩ = some (.int .i64 a0_1) := sC BK101 1 rfl
        have hcz30_2 : wc.cell? ⟨gb101, 2, none⟩ = some (.int .i64 a0_2) := sC BK101 2 rfl
        have hcz30_3 : wc.cell? ⟨gb101, 3, none⟩ = some (.int .i64 a0_3) := sC BK101 3 rfl
        have hcz30_4 : wc.cell? ⟨gb101, 4, none⟩ = some (.int .i64 a0_4) := sC BK101 4 rfl
        have hcz30_5 : wc.cell? ⟨gb101, 5, none⟩ = some (.int .i64 a0_5) := sC BK101 5 rfl
        have hcz30_6 : wc.cell? ⟨gb101, 6, none⟩ = some (.int .i64 a0_6) := sC BK101 6 rfl
        have hcz30_7 : wc.cell? ⟨gb101, 7, none⟩ = some (.int .i64 a0_7) := sC BK101 7 rfl
        have hcz30_8 : wc.cell? ⟨gb101, 8, none⟩ = some (.slice A0_8 l0_8.length c0_8) := sC BK101 8 rfl
        have hcz30_9 : wc.cell? ⟨gb101, 9, none⟩ = some (.slice A0_9 l0_9.length c0_9) := sC BK101 9 rfl
        have hcz30_10 : wc.cell? ⟨gb101, 10, none⟩ = some (.slice A0_10 l0_10.length c0_10) := sC BK101 10 rfl
        have hfz30_0 := blk_frozen BK101.out 0
        have hfz30_1 := blk_frozen BK101.out 1
        have hfz30_2 := blk_frozen BK101.out 2
        have hfz30_3 := blk_frozen BK101.out 3
        have hfz30_4 := blk_frozen BK101.out 4
        have hfz30_5 := blk_frozen BK101.out 5
        have hfz30_6 := blk_frozen BK101.out 6
        have hfz30_7 := blk_frozen BK101.out 7
        have hfz30_8 := blk_frozen BK101.out 8
        have hfz30_9 := blk_frozen BK101.out 9
        have hfz30_10 := blk_frozen BK101.out 10
        go_wp2_with (first | ((with_reducible refine gate_callee (f := 22) rfl ?_); refine goesL_ (some 54) rfl rfl Try.func22 (by kernel_rfl) rfl #[.int .i64 a0_2, .int .i64 a0_6, .bool (a0_0 == 0)] rfl (by (try simp only [List.map_toArray, List.map_cons, List.map_nil]); first | done | rfl | (simp only [List.length_drop, List.length_take]; rfl)) ?_; (with_reducible refine (spec_l15Of.calls a0_2 a0_6 (a0_0 == 0) true _ A23.out).mono ?_); rintro e w' ⟨rfl, ⟨nd, rfl⟩⟩; refine ⟨_, rfl, ?_⟩) | (go_at_call 22; (with_reducible refine (spec_l15Of.calls a0_5 a0_7 (decide (a0_0 < 2)) true _ A25.out).mono ?_); rintro e w' ⟨rfl, ⟨nd, rfl⟩⟩) | (go_at_call 22; (with_reducible refine (spec_l15Of.calls a0_4 a0_6 (a0_1 == 0) true _ A27.out).mono ?_); rintro e w' ⟨rfl, ⟨nd, rfl⟩⟩) | (go_at_call 22; (with_reducible refine (spec_l15Of.calls a0_3 a0_7 (a0_1 == 0) t109 _ A29.out).mono ?_); rintro e w' ⟨rfl, ⟨nd, rfl⟩⟩))
        go_meet
        case rel => exact ⟨_, (!t109), (by first | rfl | (simp; done) | (simp [*]; done)), H', ⟨by have := HJ1.out; first | omega | exact Nat.le_refl _⟩, ⟨sB BK101.out⟩, ⟨by repeat (first | (with_reducible first | exact HB.out | apply sLA | apply sLN | apply sLD | refine sLS ?_ GE101.out) | exact HB.out)⟩⟩
       ·replace c28 := Bool.eq_false_iff.mpr c28
        subst c28
        have H1 : (spec_GoodGreet.j1 kj1 true a0_0 a0_1 a0_2 a0_3 a0_4 a0_5 a0_6 a0_7 l0_8 l0_9 l0_10) = some r := by rw [if_neg (show ¬ (false = true) by decide)] at H; exact H
        clear H
        have H := H1
        clear H1
        have H' := sA H
        clear H
        have hcz31_0 : wc.cell? ⟨gb101, 0, none⟩ = some (.int .i64 a0_0) := sC BK101 0 rfl
        have hcz31_1 : wc.cell? ⟨gb101, 1, none⟩ = some (.int .i64 a0_1) := sC BK101 1 rfl
        have hcz31_2 : wc.cell? ⟨gb101, 2, none⟩ = some (.int .i64 a0_2) := sC BK101 2 rfl
        have hcz31_3 : wc.cell? ⟨gb101, 3, none⟩ = some (.int .i64 a0_3) := sC BK101 3 rfl
        have hcz31_4 : wc.cell? ⟨gb101, 4, none⟩ = some (.int .i64 a0_4) := sC BK101 4 rfl
        have hcz31_5 : wc.cell? ⟨gb101, 5, none⟩ = some (.int .i64 a0_5) := sC BK101 5 rfl
        have hcz31_6 : wc.cell? ⟨gb101, 6, none⟩ = some (.int .i64 a0_6) := sC BK101 6 rfl
        have hcz31_7 : wc.cell? ⟨gb101, 7, none⟩ = some (.int .i64 a0_7) := sC BK101 7 rfl
        have hcz31_8 : wc.cell? ⟨gb101, 8, none⟩ = some (.slice A0_8 l0_8.length c0_8) := sC BK101 8 rfl
        have hcz31_9 : wc.cell? ⟨gb101, 9, none⟩ = some (.slice A0_9 l0_9.length c0_9) := sC BK101 9 rfl
        have hcz31_10 : wc.cell? ⟨gb101, 10, none⟩ = some (.slice A0_10 l0_10.length c0_10) := sC BK101 10 rfl
        have hfz31_0 := blk_frozen BK101.out 0
        have hfz31_1 := blk_frozen BK101.out 1
        have hfz31_2 := blk_frozen BK101.out 2
        have hfz31_3 := blk_frozen BK101.out 3
        have hfz31_4 := blk_frozen BK101.out 4
        have hfz31_5 := blk_frozen BK101.out 5
        have hfz31_6 := blk_frozen BK101.out 6
        have hfz31_7 := blk_frozen BK101.out 7
        have hfz31_8 := blk_frozen BK101.out 8
        have hfz31_9 := blk_frozen BK101.out 9
        have hfz31_10 := blk_frozen BK101.out 10
        go_wp2_with (first | ((with_reducible refine gate_callee (f := 22) rfl ?_); refine goesL_ (some 54) rfl rfl Try.func22 (by kernel_rfl) rfl #[.int .i64 a0_2, .int .i64 a0_6, .bool (a0_0 == 0)] rfl (by (try simp only [List.map_toArray, List.map_cons, List.map_nil]); first | done | rfl | (simp only [List.length_drop, List.length_take]; rfl)) ?_; (with_reducible refine (spec_l15Of.calls a0_2 a0_6 (a0_0 == 0) true _ A23.out).mono ?_); rintro e w' ⟨rfl, ⟨nd, rfl⟩⟩; refine ⟨_, rfl, ?_⟩) | (go_at_call 22; (with_reducible refine (spec_l15Of.calls a0_5 a0_7 (decide (a0_0 < 2)) true _ A25.out).mono ?_); rintro e w' ⟨rfl, ⟨nd, rfl⟩⟩) | (go_at_call 22; (with_reducible refine (spec_l15Of.calls a0_4 a0_6 (a0_1 == 0) false _ A27.out).mono ?_); rintro e w' ⟨rfl, ⟨nd, rfl⟩⟩))
        go_meet
        case rel => exact ⟨_, (true), (by first | rfl | (simp; done) | (simp [*]; done)), H', ⟨by have := HJ1.out; first | omega | exact Nat.le_refl _⟩, ⟨sB BK101.out⟩, ⟨by repeat (first | (with_reducible first | exact HB.out | apply sLA | apply sLN | apply sLD | refine sLS ?_ GE101.out) | exact HB.out)⟩⟩
      ·replace c26 := Bool.eq_false_iff.mpr c26
       subst c26
       have H1 : (spec_GoodGreet.j1 kj1 true a0_0 a0_1 a0_2 a0_3 a0_4 a0_5 a0_6 a0_7 l0_8 l0_9 l0_10) = some r := by rw [if_neg (show ¬ (false = true) by decide)] at H; exact H
       clear H
       have H := H1
       clear H1
       have H' := sA H
       clear H
       have hcz32_0 : wc.cell? ⟨gb101, 0, none⟩ = some (.int .i64 a0_0) := sC BK101 0 rfl
       have hcz32_1 : wc.cell? ⟨gb101, 1, none⟩ = some (.int .i64 a0_1) := sC BK101 1 rfl
       have hcz32_2 : wc.cell? ⟨gb101, 2, none⟩ = some (.int .i64 a0_2) := sC BK101 2 rfl
       have hcz32_3 : wc.cell? ⟨gb101, 3, none⟩ = some (.int .i64 a0_3) := sC BK101 3 rfl
       have hcz32_4 : wc.cell? ⟨gb101, 4, none⟩ = some (.int .i64 a0_4) := sC BK101 4 rfl
       have hcz32_5 : wc.cell? ⟨gb101, 5, none⟩ = some (.int .i64 a0_5) := sC BK101 5 rfl
       have hcz32_6 : wc.cell? ⟨gb101, 6, none⟩ = some (.int .i64 a0_6) := sC BK101 6 rfl
       have hcz32_7 : wc.cell? ⟨gb101, 7, none⟩ = some (.int .i64 a0_7) := sC BK101 7 rfl
       have hcz32_8 : wc.cell? ⟨gb101, 8, none⟩ = some (.slice A0_8 l0_8.length c0_8) := sC BK101 8 rfl
       have hcz32_9 : wc.cell? ⟨gb101, 9, none⟩ = some (.slice A0_9 l0_9.length c0_9) := sC BK101 9 rfl
       have hcz32_10 : wc.cell? ⟨gb101, 10, none⟩ = some (.slice A0_10 l0_10.length c0_10) := sC BK101 10 rfl
       have hfz32_0 := blk_frozen BK101.out 0
       have hfz32_1 := blk_frozen BK101.out 1
       have hfz32_2 := blk_frozen BK101.out 2
       have hfz32_3 := blk_frozen BK101.out 3
       have hfz32_4 := blk_frozen BK101.out 4
       have hfz32_5 := blk_frozen BK101.out 5
       have hfz32_6 := blk_frozen BK101.out 6
       have hfz32_7 := blk_frozen BK101.out 7
       have hfz32_8 := blk_frozen BK101.out 8
       have hfz32_9 := blk_frozen BK101.out 9
       have hfz32_10 := blk_frozen BK101.out 10
       go_wp2_with (first | ((with_reducible refine gate_callee (f := 22) rfl ?_); refine goesL_ (some 54) rfl rfl Try.func22 (by kernel_rfl) rfl #[.int .i64 a0_2, .int .i64 a0_6, .bool (a0_0 == 0)] rfl (by (try simp only [List.map_toArray, List.map_cons, List.map_nil]); first | done | rfl | (simp only [List.length_drop, List.length_take]; rfl)) ?_; (with_reducible refine (spec_l15Of.calls a0_2 a0_6 (a0_0 == 0) true _ A23.out).mono ?_); rintro e w' ⟨rfl, ⟨nd, rfl⟩⟩; refine ⟨_, rfl, ?_⟩) | (go_at_call 22; (with_reducible refine (spec_l15Of.calls a0_5 a0_7 (decide (a0_0 < 2)) false _ A25.out).mono ?_); rintro e w' ⟨rfl, ⟨nd, rfl⟩⟩))
       go_meet
       case rel => exact ⟨_, (true), (by first | rfl | (simp; done) | (simp [*]; done)), H', ⟨by have := HJ1.out; first | omega | exact Nat.le_refl _⟩, ⟨sB BK101.out⟩, ⟨by repeat (first | (with_reducible first | exact HB.out | apply sLA | apply sLN | apply sLD | refine sLS ?_ GE101.out) | exact HB.out)⟩⟩
     ·replace c24 := Bool.eq_false_iff.mpr c24
      subst c24
      have H1 : (spec_GoodGreet.j1 kj1 true a0_0 a0_1 a0_2 a0_3 a0_4 a0_5 a0_6 a0_7 l0_8 l0_9 l0_10) = some r := by rw [if_neg (show ¬ (false = true) by decide)] at H; exact H
      clear H
      have H := H1
      clear H1
      have H' := sA H
      clear H
      have hcz33_0 : wc.cell? ⟨gb101, 0, none⟩ = some (.int .i64 a0_0) := sC BK101 0 rfl
      have hcz33_1 : wc.cell? ⟨gb101, 1, none⟩ = some (.int .i64 a0_1) := sC BK101 1 rfl
      have hcz33_2 : wc.cell? ⟨gb101, 2, none⟩ = some (.int .i64 a0_2) := sC BK101 2 rfl
      have hcz33_3 : wc.cell? ⟨gb101, 3, none⟩ = some (.int .i64 a0_3) := sC BK101 3 rfl
      have hcz33_4 : wc.cell? ⟨gb101, 4, none⟩ = some (.int .i64 a0_4) := sC BK101 4 rfl
      have hcz33_5 : wc.cell? ⟨gb101, 5, none⟩ = some (.int .i64 a0_5) := sC BK101 5 rfl
      have hcz33_6 : wc.cell? ⟨gb101, 6, none⟩ = some (.int .i64 a0_6) := sC BK101 6 rfl
      have hcz33_7 : wc.cell? ⟨gb101, 7, none⟩ = some (.int .i64 a0_7) := sC BK101 7 rfl
      have hcz33_8 : wc.cell? ⟨gb101, 8, none⟩ = some (.slice A0_8 l0_8.length c0_8) := sC BK101 8 rfl
      have hcz33_9 : wc.cell? ⟨gb101, 9, none⟩ = some (.slice A0_9 l0_9.length c0_9) := sC BK101 9 rfl
      have hcz33_10 : wc.cell? ⟨gb101, 10, none⟩ = some (.slice A0_10 l0_10.length c0_10) := sC BK101 10 rfl
      have hfz33_0 := blk_frozen BK101.out 0
      have hfz33_1 := blk_frozen BK101.out 1
      have hfz33_2 := blk_frozen BK101.out 2
      have hfz33_3 := blk_frozen BK101.out 3
      have hfz33_4 := blk_frozen BK101.out 4
      have hfz33_5 := blk_frozen BK101.out 5
      have hfz33_6 := blk_frozen BK101.out 6
      have hfz33_7 := blk_frozen BK101.out 7
      have hfz33_8 := blk_frozen BK101.out 8
      have hfz33_9 := blk_frozen BK101.out 9
      have hfz33_10 := blk_frozen BK101.out 10
      go_wp2_with (first | ((with_reducible refine gate_callee (f := 22) rfl ?_); refine goesL_ (some 54) rfl rfl Try.func22 (by kernel_rfl) rfl #[.int .i64 a0_2, .int .i64 a0_6, .bool (a0_0 == 0)] rfl (by (try simp only [List.map_toArray, List.map_cons, List.map_nil]); first | done | rfl | (simp only [List.length_drop, List.length_take]; rfl)) ?_; (with_reducible refine (spec_l15Of.calls a0_2 a0_6 (a0_0 == 0) false _ A23.out).mono ?_); rintro e w' ⟨rfl, ⟨nd, rfl⟩⟩; refine ⟨_, rfl, ?_⟩))
      go_meet
      case rel => exact ⟨_, (true), (by first | rfl | (simp; done) | (simp [*]; done)), H', ⟨by have := HJ1.out; first | omega | exact Nat.le_refl _⟩, ⟨sB BK101.out⟩, ⟨by repeat (first | (with_reducible first | exact HB.out | apply sLA | apply sLN | apply sLD | refine sLS ?_ GE101.out) | exact HB.out)⟩⟩
    case rest =>
     clear HC22
     try clear c1
     try clear c2
     try clear p2
     try clear c5
     try clear c7
     try clear c9
     try clear c11
     try clear c12
     try clear c12b0
     try clear c12b1
     try clear c14
     try clear c14b0
     try clear c14b1
     try clear c21
     try clear c22
     try clear c24
     try clear c26
     try clear c28
     try clear hcz13_0
     try clear hcz13_1
     try clear hcz13_10
     try clear hcz13_2
     try clear hcz13_3
     try clear hcz13_4
     try clear hcz13_5
     try clear hcz13_6
     try clear hcz13_7
     try clear hcz13_8
     try clear hcz13_9
     try clear hcz15_0
     try clear hcz15_1
     try clear hcz15_10
     try clear hcz15_2
     try clear hcz15_3
     try clear hcz15_4
     try clear hcz15_5
     try clear hcz15_6
     try clear hcz15_7
     try clear hcz15_8
     try clear hcz15_9
     try clear hcz16_0
     try clear hcz16_1
     try clear hcz16_10
     try clear hcz16_2
     try clear hcz16_3
     try clear hcz16_4
     try clear hcz16_5
     try clear hcz16_6
     try clear hcz16_7
     try clear hcz16_8
     try clear hcz16_9
     try clear hcz17_0
     try clear hcz17_1
     try clear hcz17_10
     try clear hcz17_2
     try clear hcz17_3
     try clear hcz17_4
     try clear hcz17_5
     try clear hcz17_6
     try clear hcz17_7
     try clear hcz17_8
     try clear hcz17_9
     try clear hcz18_0
     try clear hcz18_1
     try clear hcz18_10
     try clear hcz18_2
     try clear hcz18_3
     try clear hcz18_4
     try clear hcz18_5
     try clear hcz18_6
     try clear hcz18_7
     try clear hcz18_8
     try clear hcz18_9
     try clear hcz19_0
     try clear hcz19_1
     try clear hcz19_10
     try clear hcz19_2
     try clear hcz19_3
     try clear hcz19_4
     try clear hcz19_5
     try clear hcz19_6
     try clear hcz19_7
     try clear hcz19_8
     try clear hcz19_9
     try clear hcz20_0
     try clear hcz20_1
     try clear hcz20_10
     try clear hcz20_2
     try clear hcz20_3
     try clear hcz20_4
     try clear hcz20_5
     try clear hcz20_6
     try clear hcz20_7
     try clear hcz20_8
     try clear hcz20_9
     try clear hcz30_0
     try clear hcz30_1
     try clear hcz30_10
     try clear hcz30_2
     try clear hcz30_3
     try clear hcz30_4
     try clear hcz30_5
     try clear hcz30_6
     try clear hcz30_7
     try clear hcz30_8
     try clear hcz30_9
     try clear hcz31_0
     try clear hcz31_1
     try clear hcz31_10
     try clear hcz31_2
     try clear hcz31_3
     try clear hcz31_4
     try clear hcz31_5
     try clear hcz31_6
     try clear hcz31_7
     try clear hcz31_8
     try clear hcz31_9
     try clear hcz32_0
     try clear hcz32_1
     try clear hcz32_10
     try clear hcz32_2
     try clear hcz32_3
     try clear hcz32_4
     try clear hcz32_5
     try clear hcz32_6
     try clear hcz32_7
     try clear hcz32_8
     try clear hcz32_9
     try clear hcz33_0
     try clear hcz33_1
     try clear hcz33_10
     try clear hcz33_2
     try clear hcz33_3
     try clear hcz33_4
     try clear hcz33_5
     try clear hcz33_6
     try clear hcz33_7
     try clear hcz33_8
     try clear hcz33_9
     try clear hfz13_0
     try clear hfz13_1
     try clear hfz13_10
     try clear hfz13_2
     try clear hfz13_3
     try clear hfz13_4
     try clear hfz13_5
     try clear hfz13_6
     try clear hfz13_7
     try clear hfz13_8
     try clear hfz13_9
     try clear hfz15_0
     try clear hfz15_1
     try clear hfz15_10
     try clear hfz15_2
     try clear hfz15_3
     try clear hfz15_4
     try clear hfz15_5
     try clear hfz15_6
     try clear hfz15_7
     try clear hfz15_8
     try clear hfz15_9
     try clear hfz16_0
     try clear hfz16_1
     try clear hfz16_10
     try clear hfz16_2
     try clear hfz16_3
     try clear hfz16_4
     try clear hfz16_5
     try clear hfz16_6
     try clear hfz16_7
     try clear hfz16_8
     try clear hfz16_9
     try clear hfz17_0
     try clear hfz17_1
     try clear hfz17_10
     try clear hfz17_2
     try clear hfz17_3
     try clear hfz17_4
     try clear hfz17_5
     try clear hfz17_6
     try clear hfz17_7
     try clear hfz17_8
     try clear hfz17_9
     try clear hfz18_0
     try clear hfz18_1
     try clear hfz18_10
     try clear hfz18_2
     try clear hfz18_3
     try clear hfz18_4
     try clear hfz18_5
     try clear hfz18_6
     try clear hfz18_7
     try clear hfz18_8
     try clear hfz18_9
     try clear hfz19_0
     try clear hfz19_1
     try clear hfz19_10
     try clear hfz19_2
     try clear hfz19_3
     try clear hfz19_4
     try clear hfz19_5
     try clear hfz19_6
     try clear hfz19_7
     try clear hfz19_8
     try clear hfz19_9
     try clear hfz20_0
     try clear hfz20_1
     try clear hfz20_10
     try clear hfz20_2
     try clear hfz20_3
     try clear hfz20_4
     try clear hfz20_5
     try clear hfz20_6
     try clear hfz20_7
     try clear hfz20_8
     try clear hfz20_9
     try clear hfz30_0
     try clear hfz30_1
     try clear hfz30_10
     try clear hfz30_2
     try clear hfz30_3
     try clear hfz30_4
     try clear hfz30_5
     try clear hfz30_6
     try clear hfz30_7
     try clear hfz30_8
     try clear hfz30_9
     try clear hfz31_0
     try clear hfz31_1
     try clear hfz31_10
     try clear hfz31_2
     try clear hfz31_3
     try clear hfz31_4
     try clear hfz31_5
     try clear hfz31_6
     try clear hfz31_7
     try clear hfz31_8
     try clear hfz31_9
     try clear hfz32_0
     try clear hfz32_1
     try clear hfz32_10
     try clear hfz32_2
     try clear hfz32_3
     try clear hfz32_4
     try clear hfz32_5
     try clear hfz32_6
     try clear hfz32_7
     try clear hfz32_8
     try clear hfz32_9
     try clear hfz33_0
     try clear hfz33_1
     try clear hfz33_10
     try clear hfz33_2
     try clear hfz33_3
     try clear hfz33_4
     try clear hfz33_5
     try clear hfz33_6
     try clear hfz33_7
     try clear hfz33_8
     try clear hfz33_9
     try clear p2
     obtain ⟨kq, x88_21, rfl, HA, HJ21, BK101, HB⟩ := hcut
     cases kq with
     | zero => exact absurd HA.out (by simp [spec_GoodGreet.j1])
     | succ kj21 =>
      have H := HA.out
      clear HA
      simp only [spec_GoodGreet.j1] at H
      by_cases c34 : x88_21 = true
      ·subst c34
       have H1 : (some false) = some r := by rw [if_pos rfl] at H; exact H
       clear H
       have H := H1
       clear H1
       obtain rfl := Option.some.inj H
       go_wp2
       go_ret
       exact ⟨by first | rfl | (simp [errW_none, errW_some] <;> rfl) | (simp [*, errW_none, errW_some] <;> rfl), by repeat (first | (with_reducible first | exact HB.out | apply sLA | apply sLN | apply sLD | refine sLS ?_ GE101.out) | exact HB.out)⟩
      ·replace c34 := Bool.eq_false_iff.mpr c34
       subst c34
       have H1 : (spec_GoodGreet.l0 kj21 l0_8 (l0_8.length : Int) 0 a0_0 a0_1 a0_2 a0_3 a0_4 a0_5 a0_6 a0_7 l0_8 l0_9 l0_10) = some r := by rw [if_neg (show ¬ (false = true) by decide)] at H; exact H
       clear H
       have H := H1
       clear H1
       have H' := sA H
       clear H
       have hcz35_0 : wc.cell? ⟨gb101, 0, none⟩ = some (.int .i64 a0_0) := sC BK101 0 rfl
       have hcz35_1 : wc.cell? ⟨gb101, 1, none⟩ = some (.int .i64 a0_1) := sC BK101 1 rfl
       have hcz35_2 : wc.cell? ⟨gb101, 2, none⟩ = some (.int .i64 a0_2) := sC BK101 2 rfl
       have hcz35_3 : wc.cell? ⟨gb101, 3, none⟩ = some (.int .i64 a0_3) := sC BK101 3 rfl
       have hcz35_4 : wc.cell? ⟨gb101, 4, none⟩ = some (.int .i64 a0_4) := sC BK101 4 rfl
       have hcz35_5 : wc.cell? ⟨gb101, 5, none⟩ = some (.int .i64 a0_5) := sC BK101 5 rfl
       have hcz35_6 : wc.cell? ⟨gb101, 6, none⟩ = some (.int .i64 a0_6) := sC BK101 6 rfl
       have hcz35_7 : wc.cell? ⟨gb101, 7, none⟩ = some (.int .i64 a0_7) := sC BK101 7 rfl
       have hcz35_8 : wc.cell? ⟨gb101, 8, none⟩ = some (.slice A0_8 l0_8.length c0_8) := sC BK101 8 rfl
       have hcz35_9 : wc.cell? ⟨gb101, 9, none⟩ = some (.slice A0_9 l0_9.length c0_9) := sC BK101 9 rfl
       have hcz35_10 : wc.cell? ⟨gb101, 10, none⟩ = some (.slice A0_10 l0_10.length c0_10) := sC BK101 10 rfl
       have hfz35_0 := blk_frozen BK101.out 0
       have hfz35_1 := blk_frozen BK101.out 1
       have hfz35_2 := blk_frozen BK101.out 2
       have hfz35_3 := blk_frozen BK101.out 3
       have hfz35_4 := blk_frozen BK101.out 4
       have hfz35_5 := blk_frozen BK101.out 5
       have hfz35_6 := blk_frozen BK101.out 6
       have hfz35_7 := blk_frozen BK101.out 7
       have hfz35_8 := blk_frozen BK101.out 8
       have hfz35_9 := blk_frozen BK101.out 9
       have hfz35_10 := blk_frozen BK101.out 10
       go_wp2
       go_loopg [92] kj21 (fun kq v92 w' => ∃ (x92_3 : Int), v92 = .int .i64 x92_3 ∧ Aside0 (spec_GoodGreet.l0 kq l0_8 (l0_8.length : Int) x92_3 a0_0 a0_1 a0_2 a0_3 a0_4 a0_5 a0_6 a0_7 l0_8 l0_9 l0_10 = some r) ∧ Aside0 (kq ≤ kj21) ∧ Aside0 (w'.heap[gb101]? = some (.cells #[.int .i64 a0_0, .int .i64 a0_1, .int .i64 a0_2, .int .i64 a0_3, .int .i64 a0_4, .int .i64 a0_5, .int .i64 a0_6, .int .i64 a0_7, (.slice A0_8 l0_8.length c0_8), (.slice A0_9 l0_9.length c0_9), (.slice A0_10 l0_10.length c0_10)] 24 (0, 0))) ∧ Aside0 (Below w.heap.size w w'))
       case atStart => exact ⟨(0), (by first | rfl | (simp; done) | (simp [*]; done)), H', ⟨Nat.le_refl _⟩, ⟨sB BK101.out⟩, ⟨by repeat (first | (with_reducible first | exact HB.out | apply sLA | apply sLN | apply sLD | refine sLS ?_ GE101.out) | exact HB.out)⟩⟩
       case round =>
        clear H'
        try clear c1
        try clear c2
        try clear p2
        try clear c3
        try clear c5
        try clear c7
        try clear c9
        try clear c11
        try clear c12
        try clear c12b0
        try clear c12b1
        try clear c14
        try clear c14b0
        try clear c14b1
        try clear c21
        try clear c22
        try clear c24
        try clear c26
        try clear c28
        try clear c34
        try clear hcz13_0
        try clear hcz13_1
        try clear hcz13_10
        try clear hcz13_2
        try clear hcz13_3
        try clear hcz13_4
        try clear hcz13_5
        try clear hcz13_6
        try clear hcz13_7
        try clear hcz13_8
        try clear hcz13_9
        try clear hcz15_0
        try clear hcz15_1
        try clear hcz15_10
        try clear hcz15_2
        try clear hcz15_3
        try clear hcz15_4
        try clear hcz15_5
        try clear hcz15_6
        try clear hcz15_7
        try clear hcz15_8
        try clear hcz15_9
        try clear hcz16_0
        try clear hcz16_1
        try clear hcz16_10
        try clear hcz16_2
        try clear hcz16_3
        try clear hcz16_4
        try clear hcz16_5
        try clear hcz16_6
        try clear hcz16_7
        try clear hcz16_8
        try clear hcz16_9
        try clear hcz17_0
        try clear hcz17_1
        try clear hcz17_10
        try clear hcz17_2
        try clear hcz17_3
        try clear hcz17_4
        try clear hcz17_5
        try clear hcz17_6
        try clear hcz17_7
        try clear hcz17_8
        try clear hcz17_9
        try clear hcz18_0
        try clear hcz18_1
        try clear hcz18_10
        try clear hcz18_2
        try clear hcz18_3
        try clear hcz18_4
        try clear hcz18_5
        try clear hcz18_6
        try clear hcz18_7
        try clear hcz18_8
        try clear hcz18_9
        try clear hcz19_0
        try clear hcz19_1
        try clear hcz19_10
        try clear hcz19_2
        try clear hcz19_3
        try clear hcz19_4
        try clear hcz19_5
        try clear hcz19_6
        try clear hcz19_7
        try clear hcz19_8
        try clear hcz19_9
        try clear hcz20_0
        try clear hcz20_1
        try clear hcz20_10
        try clear hcz20_2
        try clear hcz20_3
        try clear hcz20_4
        try clear hcz20_5
        try clear hcz20_6
        try clear hcz20_7
        try clear hcz20_8
        try clear hcz20_9
        try clear hcz30_0
        try clear hcz30_1
        try clear hcz30_10
        try clear hcz30_2
        try clear hcz30_3
        try clear hcz30_4
        try clear hcz30_5
        try clear hcz30_6
        try clear hcz30_7
        try clear hcz30_8
        try clear hcz30_9
        try clear hcz31_0
        try clear hcz31_1
        try clear hcz31_10
        try clear hcz31_2
        try clear hcz31_3
        try clear hcz31_4
        try clear hcz31_5
        try clear hcz31_6
        try clear hcz31_7
        try clear hcz31_8
        try clear hcz31_9
        try clear hcz32_0
        try clear hcz32_1
        try clear hcz32_10
        try clear hcz32_2
        try clear hcz32_3
        try clear hcz32_4
        try clear hcz32_5
        try clear hcz32_6
        try clear hcz32_7
        try clear hcz32_8
        try clear hcz32_9
        try clear hcz33_0
        try clear hcz33_1
        try clear hcz33_10
        try clear hcz33_2
        try clear hcz33_3
        try clear hcz33_4
        try clear hcz33_5
        try clear hcz33_6
        try clear hcz33_7
        try clear hcz33_8
        try clear hcz33_9
        try clear hcz35_0
        try clear hcz35_1
        try clear hcz35_10
        try clear hcz35_2
        try clear hcz35_3
        try clear hcz35_4
        try clear hcz35_5
        try clear hcz35_6
        try clear hcz35_7
        try clear hcz35_8
        try clear hcz35_9
        try clear hfz13_0
        try clear hfz13_1
        try clear hfz13_10
        try clear hfz13_2
        try clear hfz13_3
        try clear hfz13_4
        try clear hfz13_5
        try clear hfz13_6
        try clear hfz13_7
        try clear hfz13_8
        try clear hfz13_9
        try clear hfz15_0
        try clear hfz15_1
        try clear hfz15_10
        try clear hfz15_2
        try clear hfz15_3
        try clear hfz15_4
        try clear hfz15_5
        try clear hfz15_6
        try clear hfz15_7
        try clear hfz15_8
        try clear hfz15_9
        try clear hfz16_0
        try clear hfz16_1
        try clear hfz16_10
        try clear hfz16_2
        try clear hfz16_3
        try clear hfz16_4
        try clear hfz16_5
        try clear hfz16_6
        try clear hfz16_7
        try clear hfz16_8
        try clear hfz16_9
        try clear hfz17_0
        try clear hfz17_1
        try clear hfz17_10
        try clear hfz17_2
        try clear hfz17_3
        try clear hfz17_4
        try clear hfz17_5
        try clear hfz17_6
        try clear hfz17_7
        try clear hfz17_8
        try clear hfz17_9
        try clear hfz18_0
        try clear hfz18_1
        try clear hfz18_10
        try clear hfz18_2
        try clear hfz18_3
        try clear hfz18_4
        try clear hfz18_5
        try clear hfz18_6
        try clear hfz18_7
        try clear hfz18_8
        try clear hfz18_9
        try clear hfz19_0
        try clear hfz19_1
        try clear hfz19_10
        try clear hfz19_2
        try clear hfz19_3
        try clear hfz19_4
        try clear hfz19_5
        try clear hfz19_6
        try clear hfz19_7
        try clear hfz19_8
        try clear hfz19_9
        try clear hfz20_0
        try clear hfz20_1
        try clear hfz20_10
        try clear hfz20_2
        try clear hfz20_3
        try clear hfz20_4
        try clear hfz20_5
        try clear hfz20_6
        try clear hfz20_7
        try clear hfz20_8
        try clear hfz20_9
        try clear hfz30_0
        try clear hfz30_1
        try clear hfz30_10
        try clear hfz30_2
        try clear hfz30_3
        try clear hfz30_4
        try clear hfz30_5
        try clear hfz30_6
        try clear hfz30_7
        try clear hfz30_8
        try clear hfz30_9
        try clear hfz31_0
        try clear hfz31_1
        try clear hfz31_10
        try clear hfz31_2
        try clear hfz31_3
        try clear hfz31_4
        try clear hfz31_5
        try clear hfz31_6
        try clear hfz31_7
        try clear hfz31_8
        try clear hfz31_9
        try clear hfz32_0
        try clear hfz32_1
        try clear hfz32_10
        try clear hfz32_2
        try clear hfz32_3
        try clear hfz32_4
        try clear hfz32_5
        try clear hfz32_6
        try clear hfz32_7
        try clear hfz32_8
        try clear hfz32_9
        try clear hfz33_0
        try clear hfz33_1
        try clear hfz33_10
        try clear hfz33_2
        try clear hfz33_3
        try clear hfz33_4
        try clear hfz33_5
        try clear hfz33_6
        try clear hfz33_7
        try clear hfz33_8
        try clear hfz33_9
        try clear hfz35_0
        try clear hfz35_1
        try clear hfz35_10
        try clear hfz35_2
        try clear hfz35_3
        try clear hfz35_4
        try clear hfz35_5
        try clear hfz35_6
        try clear hfz35_7
        try clear hfz35_8
        try clear hfz35_9
        try clear p2
        obtain ⟨x92_3, rfl, HA, HK3, BK101, HB⟩ := hrel
        cases gk with
        | zero => exact absurd HA.out (by simp [spec_GoodGreet.l0])
        | succ k3 =>
         have H := HA.out
         clear HA
         simp only [spec_GoodGreet.l0] at H
         by_cases c36 : x92_3 < (l0_8.length : Int)
         ·rw [if_pos c36] at H
          have c36b0 : decide (x92_3 < (l0_8.length : Int)) = true := decide_eq_true c36
          clear c36
          by_cases c37 : 0 ≤ x92_3
          ·rw [if_pos c37] at H
           have c37b0 : decide (0 ≤ x92_3) = true := decide_eq_true c37
           clear c37
           by_cases c38 : x92_3 < (l0_8.length : Int)
           ·rw [if_pos c38] at H
            have c38b0 : decide (x92_3 < (l0_8.length : Int)) = true := decide_eq_true c38
            clear c38
            replace H := Option.bind_eq_some_iff.mp H
            obtain ⟨t112, A390, H⟩ := H
            replace H : (if t112 = true then (spec_GoodGreet.l0 k3 l0_8 (l0_8.length : Int) (wrap64 (x92_3 + 1)) a0_0 a0_1 a0_2 a0_3 a0_4 a0_5 a0_6 a0_7 l0_8 l0_9 l0_10) else (some false)) = some r := H
            have A39 := sA A390
            clear A390
            by_cases c40 : t112 = true
            ·subst c40
             have H1 : (spec_GoodGreet.l0 k3 l0_8 (l0_8.length : Int) (wrap64 (x92_3 + 1)) a0_0 a0_1 a0_2 a0_3 a0_4 a0_5 a0_6 a0_7 l0_8 l0_9 l0_10) = some r := by rw [if_pos rfl] at H; exact H
             clear H
             have H := H1
             clear H1
             have H' := sA H
             clear H
             have p110 : 0 ≤ (x92_3 : Int) := of_decide_eq_true (by first | (with_reducible assumption) | assumption)
             have q110 : x92_3 < (l0_8.length : Int) := of_decide_eq_true (by first | (with_reducible assumption) | assumption)
             obtain ⟨ad110, e110, hx110_0, hx110_1, hx110_2⟩ := at_T44 HR0_8.out x92_3 p110 q110
             cases e110
             replace hx110_0 := (HB.out.cell (World.block_lt_of_cell? w _ hx110_0)).trans hx110_0
             replace hx110_1 := (HB.out.cell (World.block_lt_of_cell? w _ hx110_1)).trans hx110_1
             replace hx110_2 := (HB.out.cell (World.block_lt_of_cell? w _ hx110_2)).trans hx110_2
             replace p110 := eq_true p110
             replace q110 := eq_true q110
             go_wp2_with (first | ((with_reducible refine gate_dst (N := 4) rfl ?_); (try (refine gate_guard (by rfl) ?_; dsimp only)); refine box_event ?hg (N := 4) ?hd (cs := #[.int .i64 0, .int .i64 0, .int .i64 0]) (t := 44) ?hr ?_; (case hd => rfl); (case hg => rfl); (case hr => first | (go_simp; done) | (go_simp; rfl)); intro gb111 hg w41 hbox hb; have n0_ := sA (blk_below (sB BK101.out) hb); have n1_ := sA (below_step (by repeat (first | (with_reducible first | exact HB.out | apply sLA | apply sLN | apply sLD | refine sLS ?_ GE101.out) | exact HB.out)) hb); have n2_ := sA (hbox); have n3_ := sA ((by rw [hg]; exact (below_size (by repeat (first | (with_reducible first | exact HB.out | apply sLA | apply sLN | apply sLD | refine sLS ?_ GE101.out) | exact HB.out))) : w.heap.size ≤ gb111)); have n4_ := sA ((by rw [hg]; exact (below_size (by repeat (first | (with_reducible first | exact HB.out | apply sLA | apply sLN | apply sLD | refine sLS ?_ GE101.out) | exact HB.out))) : w.heap.size ≤ gb111)); have n5_ := sA ((by rw [hg]; exact Nat.ne_of_lt (blk_lt (sB BK101.out)) : gb101 ≠ gb111)); have n6_ := sA ((by rw [hg]; exact Nat.ne_of_gt (blk_lt (sB BK101.out)) : gb111 ≠ gb101)); clear BK101; clear HB; have BK101 := n0_; have HB := n1_; have BK111 := n2_; have GW111 := n3_; have GE111 := n4_; have NB101_111 := n5_; have NB111_101 := n6_; clear n0_ n1_ n2_ n3_ n4_ n5_ n6_; clear hb hbox hg; have hnb42 := NB111_101.out; have hnc42 := NB101_111.out; have hcz43_0 : w41.cell? ⟨gb111, 0, none⟩ = some (.int .i64 0) := sC BK111 0 rfl; have hcz43_1 : w41.cell? ⟨gb111, 1, none⟩ = some (.int .i64 0) := sC BK111 1 rfl; have hcz43_2 : w41.cell? ⟨gb111, 2, none⟩ = some (.int .i64 0) := sC BK111 2 rfl; have hfz43_0 := blk_frozen BK111.out 0; have hfz43_1 := blk_frozen BK111.out 1; have hfz43_2 := blk_frozen BK111.out 2; have hcz44_0 : w41.cell? ⟨gb101, 0, none⟩ = some (.int .i64 a0_0) := sC BK101 0 rfl; have hcz44_1 : w41.cell? ⟨gb101, 1, none⟩ = some (.int .i64 a0_1) := sC BK101 1 rfl; have hcz44_2 : w41.cell? ⟨gb101, 2, none⟩ = some (.int .i64 a0_2) := sC BK101 2 rfl; have hcz44_3 : w41.cell? ⟨gb101, 3, none⟩ = some (.int .i64 a0_3) := sC BK101 3 rfl; have hcz44_4 : w41.cell? ⟨gb101, 4, none⟩ = some (.int .i64 a0_4) := sC BK101 4 rfl; have hcz44_5 : w41.cell? ⟨gb101, 5, none⟩ = some (.int .i64 a0_5) := sC BK101 5 rfl; have hcz44_6 : w41.cell? ⟨gb101, 6, none⟩ = some (.int .i64 a0_6) := sC BK101 6 rfl; have hcz44_7 : w41.cell? ⟨gb101, 7, none⟩ = some (.int .i64 a0_7) := sC BK101 7 rfl; have hcz44_8 : w41.cell? ⟨gb101, 8, none⟩ = some (.slice (some ad110) l0_8.length c0_8) := sC BK101 8 rfl; have hcz44_9 : w41.cell? ⟨gb101, 9, none⟩ = some (.slice A0_9 l0_9.length c0_9) := sC BK101 9 rfl; have hcz44_10 : w41.cell? ⟨gb101, 10, none⟩ = some (.slice A0_10 l0_10.length c0_10) := sC BK101 10 rfl; have hfz44_0 := blk_frozen BK101.out 0; have hfz44_1 := blk_frozen BK101.out 1; have hfz44_2 := blk_frozen BK101.out 2; have hfz44_3 := blk_frozen BK101.out 3; have hfz44_4 := blk_frozen BK101.out 4; have hfz44_5 := blk_frozen BK101.out 5; have hfz44_6 := blk_frozen BK101.out 6; have hfz44_7 := blk_frozen BK101.out 7; have hfz44_8 := blk_frozen BK101.out 8; have hfz44_9 := blk_frozen BK101.out 9; have hfz44_10 := blk_frozen BK101.out 10) | ((with_reducible refine gate_callee (f := 23) rfl ?_); refine goesL_ (some 98) rfl rfl Try.func23 (by kernel_rfl) rfl #[.agg #[.int .i64 a0_0, .int .i64 a0_1, .int .i64 a0_2, .int .i64 a0_3, .int .i64 a0_4, .int .i64 a0_5, .int .i64 a0_6, .int .i64 a0_7, .slice (some ad110) l0_8.length c0_8, .slice A0_9 l0_9.length c0_9, .slice A0_10 l0_10.length c0_10], .agg #[.int .i64 ((rd_T44 l0_8 x92_3).f0), .int .i64 ((rd_T44 l0_8 x92_3).f1), .int .i64 ((rd_T44 l0_8 x92_3).f2)]] rfl (by (try simp only [List.map_toArray, List.map_cons, List.map_nil]); first | done | rfl | (simp only [List.length_drop, List.length_take]; rfl)) ?_; (with_reducible refine (spec_l15Letter.calls a0_0 a0_1 a0_2 a0_3 a0_4 a0_5 a0_6 a0_7 _ _ l0_8 _ _ l0_9 _ _ l0_10 ((rd_T44 l0_8 x92_3).f0) ((rd_T44 l0_8 x92_3).f1) ((rd_T44 l0_8 x92_3).f2) true _ ?side1 ?side2 ?side3 ?side4 ?side5 ?side6 A39.out).mono ?_); (case side1 => exact Kd.C_below HR0_8.out (by repeat (first | (with_reducible first | exact HB.out | apply sLA | apply sLN | apply sLD | refine sLS ?_ (Aside0.out (by assumption))) | exact HB.out))); (case side2 => exact HC0_8.out); (case side3 => exact Kd.C_below HR0_9.out (by repeat (first | (with_reducible first | exact HB.out | apply sLA | apply sLN | apply sLD | refine sLS ?_ (Aside0.out (by assumption))) | exact HB.out))); (case side4 => exact HC0_9.out); (case side5 => exact Kd.C_below HR0_10.out (by repeat (first | (with_reducible first | exact HB.out | apply sLA | apply sLN | apply sLD | refine sLS ?_ (Aside0.out (by assumption))) | exact HB.out))); (case side6 => exact HC0_10.out); rintro e w45 ⟨rfl, hb⟩; refine ⟨_, rfl, ?_⟩; have n0_ := sA (blk_below (g := gb101) (o := .cells #[.int .i64 a0_0, .int .i64 a0_1, .int .i64 a0_2, .int .i64 a0_3, .int .i64 a0_4, .int .i64 a0_5, .int .i64 a0_6, .int .i64 a0_7, .slice (some ad110) l0_8.length c0_8, .slice A0_9 l0_9.length c0_9, .slice A0_10 l0_10.length c0_10] 24 (0, 0)) (by (with_reducible repeat first | apply blk_drewN | apply blk_drew | apply blk_alloc); refine blk_far ?_ NB101_111.out _; (with_reducible repeat first | apply blk_drewN | apply blk_drew | apply blk_alloc); refine blk_far ?_ NB101_111.out _; (with_reducible repeat first | apply blk_drewN | apply blk_drew | apply blk_alloc); refine blk_far ?_ NB101_111.out _; (with_reducible repeat first | apply blk_drewN | apply blk_drew | apply blk_alloc); exact BK101.out) hb); have n1_ := sA (blk_below (g := gb111) (o := .cells #[.int .i64 ((rd_T44 l0_8 x92_3).f0), .int .i64 ((rd_T44 l0_8 x92_3).f1), .int .i64 ((rd_T44 l0_8 x92_3).f2)] 44 (0, 0)) (by (with_reducible repeat first | apply blk_drewN | apply blk_drew | apply blk_alloc); refine blk_put (cs := #[.int .i64 ((rd_T44 l0_8 x92_3).f0), .int .i64 ((rd_T44 l0_8 x92_3).f1), .int .i64 0]) ?_ 2 _ rfl; (with_reducible repeat first | apply blk_drewN | apply blk_drew | apply blk_alloc); refine blk_put (cs := #[.int .i64 ((rd_T44 l0_8 x92_3).f0), .int .i64 0, .int .i64 0]) ?_ 1 _ rfl; (with_reducible repeat first | apply blk_drewN | apply blk_drew | apply blk_alloc); refine blk_put (cs := #[.int .i64 0, .int .i64 0, .int .i64 0]) ?_ 0 _ rfl; (with_reducible repeat first | apply blk_drewN | apply blk_drew | apply blk_alloc); exact BK111.out) hb); have n2_ := sA (below_step (by repeat (first | (with_reducible first | exact HB.out | apply sLA | apply sLN | apply sLD | refine sLS ?_ (Aside0.out (by assumption))) | exact HB.out)) hb); clear BK101; clear BK111; clear HB; have BK101 := n0_; have BK111 := n1_; have HB := n2_; clear n0_ n1_ n2_; (try clear hb); (try clear hb2); (try clear hk); (try clear hi)))
             go_roundg k3
             case measure => have := HJ1.out; have := HJ21.out; have := HK3.out; omega
             case rel => exact ⟨(wrap64 (x92_3 + 1)), (by first | rfl | (simp; done) | (simp [*]; done)), H', ⟨by have := HJ1.out; have := HJ21.out; have := HK3.out; omega⟩, ⟨sB BK101.out⟩, ⟨by repeat (first | (with_reducible first | exact HB.out | apply sLA | apply sLN | apply sLD | refine sLS ?_ GE101.out | refine sLS ?_ GE111.out) | exact HB.out)⟩⟩
            ·replace c40 := Bool.eq_false_iff.mpr c40
             subst c40
             have H1 : (some false) = some r := by rw [if_neg (show ¬ (false = true) by decide)] at H; exact H
             clear H
             have H := H1
             clear H1
             obtain rfl := Option.some.inj H
             have p110 : 0 ≤ (x92_3 : Int) := of_decide_eq_true (by first | (with_reducible assumption) | assumption)
             have q110 : x92_3 < (l0_8.length : Int) := of_decide_eq_true (by first | (with_reducible assumption) | assumption)
             obtain ⟨ad110, e110, hx110_0, hx110_1, hx110_2⟩ := at_T44 HR0_8.out x92_3 p110 q110
             cases e110
             replace hx110_0 := (HB.out.cell (World.block_lt_of_cell? w _ hx110_0)).trans hx110_0
             replace hx110_1 := (HB.out.cell (World.block_lt_of_cell? w _ hx110_1)).trans hx110_1
             replace hx110_2 := (HB.out.cell (World.block_lt_of_cell? w _ hx110_2)).trans hx110_2
             replace p110 := eq_true p110
             replace q110 := eq_true q110
             go_wp2_with (first | ((with_reducible refine gate_dst (N := 4) rfl ?_); (try (refine gate_guard (by rfl) ?_; dsimp only)); refine box_event ?hg (N := 4) ?hd (cs := #[.int .i64 0, .int .i64 0, .int .i64 0]) (t := 44) ?hr ?_; (case hd => rfl); (case hg => rfl); (case hr => first | (go_simp; done) | (go_simp; rfl)); intro gb111 hg w46 hbox hb; have n0_ := sA (blk_below (sB BK101.out) hb); have n1_ := sA (below_step (by repeat (first | (with_reducible first | exact HB.out | apply sLA | apply sLN | apply sLD | refine sLS ?_ GE101.out) | exact HB.out)) hb); have n2_ := sA (hbox); have n3_ := sA ((by rw [hg]; exact (below_size (by repeat (first | (with_reducible first | exact HB.out | apply sLA | apply sLN | apply sLD | refine sLS ?_ GE101.out) | exact HB.out))) : w.heap.size ≤ gb111)); have n4_ := sA ((by rw [hg]; exact (below_size (by repeat (first | (with_reducible first | exact HB.out | apply sLA | apply sLN | apply sLD | refine sLS ?_ GE101.out) | exact HB.out))) : w.heap.size ≤ gb111)); have n5_ := sA ((by rw [hg]; exact Nat.ne_of_lt (blk_lt (sB BK101.out)) : gb101 ≠ gb111)); have n6_ := sA ((by rw [hg]; exact Nat.ne_of_gt (blk_lt (sB BK101.out)) : gb111 ≠ gb101)); clear BK101; clear HB; have BK101 := n0_; have HB := n1_; have BK111 := n2_; have GW111 := n3_; have GE111 := n4_; have NB101_111 := n5_; have NB111_101 := n6_; clear n0_ n1_ n2_ n3_ n4_ n5_ n6_; clear hb hbox hg; have hnb47 := NB111_101.out; have hnc47 := NB101_111.out; have hcz48_0 : w46.cell? ⟨gb111, 0, none⟩ = some (.int .i64 0) := sC BK111 0 rfl; have hcz48_1 : w46.cell? ⟨gb111, 1, none⟩ = some (.int .i64 0) := sC BK111 1 rfl; have hcz48_2 : w46.cell? ⟨gb111, 2, none⟩ = some (.int .i64 0) := sC BK111 2 rfl; have hfz48_0 := blk_frozen BK111.out 0; have hfz48_1 := blk_frozen BK111.out 1; have hfz48_2 := blk_frozen BK111.out 2; have hcz49_0 : w46.cell? ⟨gb101, 0, none⟩ = some (.int .i64 a0_0) := sC BK101 0 rfl; have hcz49_1 : w46.cell? ⟨gb101, 1, none⟩ = some (.int .i64 a0_1) := sC BK101 1 rfl; have hcz49_2 : w46.cell? ⟨gb101, 2, none⟩ = some (.int .i64 a0_2) := sC BK101 2 rfl; have hcz49_3 : w46.cell? ⟨gb101, 3, none⟩ = some (.int .i64 a0_3) := sC BK101 3 rfl; have hcz49_4 : w46.cell? ⟨gb101, 4, none⟩ = some (.int .i64 a0_4) := sC BK101 4 rfl; have hcz49_5 : w46.cell? ⟨gb101, 5, none⟩ = some (.int .i64 a0_5) := sC BK101 5 rfl; have hcz49_6 : w46.cell? ⟨gb101, 6, none⟩ = some (.int .i64 a0_6) := sC BK101 6 rfl; have hcz49_7 : w46.cell? ⟨gb101, 7, none⟩ = some (.int .i64 a0_7) := sC BK101 7 rfl; have hcz49_8 : w46.cell? ⟨gb101, 8, none⟩ = some (.slice (some ad110) l0_8.length c0_8) := sC BK101 8 rfl; have hcz49_9 : w46.cell? ⟨gb101, 9, none⟩ = some (.slice A0_9 l0_9.length c0_9) := sC BK101 9 rfl; have hcz49_10 : w46.cell? ⟨gb101, 10, none⟩ = some (.slice A0_10 l0_10.length c0_10) := sC BK101 10 rfl; have hfz49_0 := blk_frozen BK101.out 0; have hfz49_1 := blk_frozen BK101.out 1; have hfz49_2 := blk_frozen BK101.out 2; have hfz49_3 := blk_frozen BK101.out 3; have hfz49_4 := blk_frozen BK101.out 4; have hfz49_5 := blk_frozen BK101.out 5; have hfz49_6 := blk_frozen BK101.out 6; have hfz49_7 := blk_frozen BK101.out 7; have hfz49_8 := blk_frozen BK101.out 8; have hfz49_9 := blk_frozen BK101.out 9; have hfz49_10 := blk_frozen BK101.out 10) | ((with_reducible refine gate_callee (f := 23) rfl ?_); refine goesL_ (some 98) rfl rfl Try.func23 (by kernel_rfl) rfl #[.agg #[.int .i64 a0_0, .int .i64 a0_1, .int .i64 a0_2, .int .i64 a0_3, .int .i64 a0_4, .int .i64 a0_5, .int .i64 a0_6, .int .i64 a0_7, .slice (some ad110) l0_8.length c0_8, .slice A0_9 l0_9.length c0_9, .slice A0_10 l0_10.length c0_10], .agg #[.int .i64 ((rd_T44 l0_8 x92_3).f0), .int .i64 ((rd_T44 l0_8 x92_3).f1), .int .i64 ((rd_T44 l0_8 x92_3).f2)]] rfl (by (try simp only [List.map_toArray, List.map_cons, List.map_nil]); first | done | rfl | (simp only [List.length_drop, List.length_take]; rfl)) ?_; (with_reducible refine (spec_l15Letter.calls a0_0 a0_1 a0_2 a0_3 a0_4 a0_5 a0_6 a0_7 _ _ l0_8 _ _ l0_9 _ _ l0_10 ((rd_T44 l0_8 x92_3).f0) ((rd_T44 l0_8 x92_3).f1) ((rd_T44 l0_8 x92_3).f2) false _ ?side1 ?side2 ?side3 ?side4 ?side5 ?side6 A39.out).mono ?_); (case side1 => exact Kd.C_below HR0_8.out (by repeat (first | (with_reducible first | exact HB.out | apply sLA | apply sLN | apply sLD | refine sLS ?_ (Aside0.out (by assumption))) | exact HB.out))); (case side2 => exact HC0_8.out); (case side3 => exact Kd.C_below HR0_9.out (by repeat (first | (with_reducible first | exact HB.out | apply sLA | apply sLN | apply sLD | refine sLS ?_ (Aside0.out (by assumption))) | exact HB.out))); (case side4 => exact HC0_9.out); (case side5 => exact Kd.C_below HR0_10.out (by repeat (first | (with_reducible first | exact HB.out | apply sLA | apply sLN | apply sLD | refine sLS ?_ (Aside0.out (by assumption))) | exact HB.out))); (case side6 => exact HC0_10.out); rintro e w50 ⟨rfl, hb⟩; refine ⟨_, rfl, ?_⟩; have n0_ := sA (blk_below (g := gb101) (o := .cells #[.int .i64 a0_0, .int .i64 a0_1, .int .i64 a0_2, .int .i64 a0_3, .int .i64 a0_4, .int .i64 a0_5, .int .i64 a0_6, .int .i64 a0_7, .slice (some ad110) l0_8.length c0_8, .slice A0_9 l0_9.length c0_9, .slice A0_10 l0_10.length c0_10] 24 (0, 0)) (by (with_reducible repeat first | apply blk_drewN | apply blk_drew | apply blk_alloc); refine blk_far ?_ NB101_111.out _; (with_reducible repeat first | apply blk_drewN | apply blk_drew | apply blk_alloc); refine blk_far ?_ NB101_111.out _; (with_reducible repeat first | apply blk_drewN | apply blk_drew | apply blk_alloc); refine blk_far ?_ NB101_111.out _; (with_reducible repeat first | apply blk_drewN | apply blk_drew | apply blk_alloc); exact BK101.out) hb); have n1_ := sA (blk_below (g := gb111) (o := .cells #[.int .i64 ((rd_T44 l0_8 x92_3).f0), .int .i64 ((rd_T44 l0_8 x92_3).f1), .int .i64 ((rd_T44 l0_8 x92_3).f2)] 44 (0, 0)) (by (with_reducible repeat first | apply blk_drewN | apply blk_drew | apply blk_alloc); refine blk_put (cs := #[.int .i64 ((rd_T44 l0_8 x92_3).f0), .int .i64 ((rd_T44 l0_8 x92_3).f1), .int .i64 0]) ?_ 2 _ rfl; (with_reducible repeat first | apply blk_drewN | apply blk_drew | apply blk_alloc); refine blk_put (cs := #[.int .i64 ((rd_T44 l0_8 x92_3).f0), .int .i64 0, .int .i64 0]) ?_ 1 _ rfl; (with_reducible repeat first | apply blk_drewN | apply blk_drew | apply blk_alloc); refine blk_put (cs := #[.int .i64 0, .int .i64 0, .int .i64 0]) ?_ 0 _ rfl; (with_reducible repeat first | apply blk_drewN | apply blk_drew | apply blk_alloc); exact BK111.out) hb); have n2_ := sA (below_step (by repeat (first | (with_reducible first | exact HB.out | apply sLA | apply sLN | apply sLD | refine sLS ?_ (Aside0.out (by assumption))) | exact HB.out)) hb); clear BK101; clear BK111; clear HB; have BK101 := n0_; have BK111 := n1_; have HB := n2_; clear n0_ n1_ n2_; (try clear hb); (try clear hb2); (try clear hk); (try clear hi)))
             go_ret
             exact ⟨by first | rfl | (simp [errW_none, errW_some] <;> rfl) | (simp [*, errW_none, errW_some] <;> rfl), by repeat (first | (with_reducible first | exact HB.out | apply sLA | apply sLN | apply sLD | refine sLS ?_ GE101.out | refine sLS ?_ GE111.out) | exact HB.out)⟩
           ·rw [if_neg c38] at H
            exact absurd H (by simp)
          ·rw [if_neg c37] at H
           exact absurd H (by simp)
         ·rw [if_neg c36] at H
          have c36b0 : decide (x92_3 < (l0_8.length : Int)) = false := decide_eq_false c36
          clear c36
          obtain ⟨y113, hy113⟩ : ∃ y_ : List (S44), y_ = (([] : List (S44))) := ⟨_, rfl⟩
          replace H : (if y113.length + l0_9.length < 5864062014805 then ((some (y113 ++ l0_9 : List (S44))).bind fun y116 => (if y116.length + l0_10.length < 5864062014805 then ((some (y116 ++ l0_10 : List (S44))).bind fun y119 => (spec_GoodGreet.l1 k3 y119 (y119.length : Int) 0 a0_0 a0_1 a0_2 a0_3 a0_4 a0_5 a0_6 a0_7 l0_8 l0_9 l0_10)) else (none))) else (none)) = some r := by first | (rw [hy113]; with_reducible exact H) | (have H2_ := (Option.bind_some _ _).symm.trans H; rw [hy113]; with_reducible exact H2_) | (have H2_ := (Option.bind_some _ _).symm.trans H; with_reducible exact H2_) | with_reducible exact H | (rw [hy113]; exact H) | exact H
          have Ny113 := sA hy113
          clear hy113
          by_cases c51 : y113.length + l0_9.length < 5864062014805
          ·rw [if_pos c51] at H
           have LMc51 := sA c51
           clear c51
           obtain ⟨y116, hy116⟩ : ∃ y_ : List (S44), y_ = (y113 ++ l0_9) := ⟨_, rfl⟩
           replace H : (if y116.length + l0_10.length < 5864062014805 then ((some (y116 ++ l0_10 : List (S44))).bind fun y119 => (spec_GoodGreet.l1 k3 y119 (y119.length : Int) 0 a0_0 a0_1 a0_2 a0_3 a0_4 a0_5 a0_6 a0_7 l0_8 l0_9 l0_10)) else (none)) = some r := by first | (rw [hy116]; with_reducible exact H) | (have H2_ := (Option.bind_some _ _).symm.trans H; rw [hy116]; with_reducible exact H2_) | (have H2_ := (Option.bind_some _ _).symm.trans H; with_reducible exact H2_) | with_reducible exact H | (rw [hy116]; exact H) | exact H
           have Ny116 := sA hy116
           clear hy116
           by_cases c52 : y116.length + l0_10.length < 5864062014805
           ·rw [if_pos c52] at H
            have LMc52 := sA c52
            clear c52
            obtain ⟨y119, hy119⟩ : ∃ y_ : List (S44), y_ = (y116 ++ l0_10) := ⟨_, rfl⟩
            replace H : (spec_GoodGreet.l1 k3 y119 (y119.length : Int) 0 a0_0 a0_1 a0_2 a0_3 a0_4 a0_5 a0_6 a0_7 l0_8 l0_9 l0_10) = some r := by first | (rw [hy119]; with_reducible exact H) | (have H2_ := (Option.bind_some _ _).symm.trans H; rw [hy119]; with_reducible exact H2_) | (have H2_ := (Option.bind_some _ _).symm.trans H; with_reducible exact H2_) | with_reducible exact H | (rw [hy119]; exact H) | exact H
            have Ny119 := sA hy119
            clear hy119
            have H' := sA H
            clear H
            try go_wp2
            have n0_ := sA (blk_drew BK101.out)
            have n1_ := sA (below_drew1 HB.out)
            clear BK101
            clear HB
            have BK101 := n0_
            have HB := n1_
            clear n0_ n1_
            refine start_ (n := 9) (S := fun w' => w'.cell? ⟨gb101, 0, none⟩ = some (.int .i64 a0_0) ∧ w'.cell? ⟨gb101, 1, none⟩ = some (.int .i64 a0_1) ∧ w'.cell? ⟨gb101, 2, none⟩ = some (.int .i64 a0_2) ∧ w'.cell? ⟨gb101, 3, none⟩ = some (.int .i64 a0_3) ∧ w'.cell? ⟨gb101, 4, none⟩ = some (.int .i64 a0_4) ∧ w'.cell? ⟨gb101, 5, none⟩ = some (.int .i64 a0_5) ∧ w'.cell? ⟨gb101, 6, none⟩ = some (.int .i64 a0_6) ∧ w'.cell? ⟨gb101, 7, none⟩ = some (.int .i64 a0_7) ∧ w'.cell? ⟨gb101, 8, none⟩ = some (.slice A0_8 l0_8.length c0_8) ∧ w'.cell? ⟨gb101, 9, none⟩ = some (.slice A0_9 l0_9.length c0_9) ∧ w'.cell? ⟨gb101, 10, none⟩ = some (.slice A0_10 l0_10.length c0_10)) (ds := []) #[false, false, false, false, false, false, false, false, false] (by kernel_rfl) rfl rfl ⟨sC BK101 0 rfl, sC BK101 1 rfl, sC BK101 2 rfl, sC BK101 3 rfl, sC BK101 4 rfl, sC BK101 5 rfl, sC BK101 6 rfl, sC BK101 7 rfl, sC BK101 8 rfl, sC BK101 9 rfl, sC BK101 10 rfl⟩ (fun hHeld => ?_); refine with_tabW spec_GoodGreet.tab11 spec_GoodGreet.bits11 (fun HT_ HW_ => ?_)
            generalize wr.drew = w53 at BK101 HB hHeld ⊢
            refine pure_ (i := 1) (N := some 102) (v := ?_) (a' := ?_) #[false, true, false, false, false, false, false, false, false] rfl rfl (any_of HT_.out (by kernel_rfl)) (fun _ _ _ h => h) (Or.inl ⟨by rfl, ?_⟩) ?_ ?_
            rotate_left
            ·intro w'
             go_simp
             with_reducible rfl
            rotate_left
            ·simp only [Act.put, List.setIfInBounds_toArray, List.set_cons_zero, List.set_cons_succ, i64_w, i32_w]
             rfl
            refine pure_ (i := 4) (N := some 105) (v := ?_) (a' := ?_) #[false, true, false, false, true, false, false, false, false] rfl rfl (any_of HT_.out (by kernel_rfl)) (fun _ _ _ h => h) (Or.inl ⟨by rfl, ?_⟩) ?_ ?_
            rotate_left
            ·intro w'
             go_simp
             with_reducible rfl
            rotate_left
            ·simp only [Act.put, List.setIfInBounds_toArray, List.set_cons_zero, List.set_cons_succ, i64_w, i32_w]
             rfl
            refine pure_ (i := 8) (N := some 109) (v := ?_) (a' := ?_) #[false, true, false, false, true, false, false, false, true] rfl rfl (any_of HT_.out (by kernel_rfl)) (fun _ _ _ h => h) (Or.inl ⟨by rfl, ?_⟩) ?_ ?_
            rotate_left
            ·intro w'
             go_simp
             with_reducible rfl
            rotate_left
            ·simp only [Act.put, List.setIfInBounds_toArray, List.set_cons_zero, List.set_cons_succ, i64_w, i32_w]
             rfl
            refine take_ (i := 2) (N := some 103) (v := ?_) (a' := ?_) #[false, true, true, false, true, false, false, false, true] rfl rfl (take_ofW HT_.out HW_.out (by kernel_rfl)) (fun _ _ _ h => h) (Or.inl ⟨by rfl, ?_⟩) hHeld ?_ ?_
            rotate_left
            ·rintro w' ⟨s0, s1, s2, s3, s4, s5, s6, s7, s8, s9, s10⟩
             go_simp
             with_reducible rfl
            rotate_left
            ·simp only [Act.put, List.setIfInBounds_toArray, List.set_cons_zero, List.set_cons_succ, i64_w, i32_w]
             rfl
            refine take_ (i := 5) (N := some 106) (v := ?_) (a' := ?_) #[false, true, true, false, true, true, false, false, true] rfl rfl (take_ofW HT_.out HW_.out (by kernel_rfl)) (fun _ _ _ h => h) (Or.inl ⟨by rfl, ?_⟩) hHeld ?_ ?_
            rotate_left
            ·rintro w' ⟨s0, s1, s2, s3, s4, s5, s6, s7, s8, s9, s10⟩
             go_simp
             with_reducible rfl
            rotate_left
            ·simp only [Act.put, List.setIfInBounds_toArray, List.set_cons_zero, List.set_cons_succ, i64_w, i32_w]
             rfl
            refine one_ (i := 0) (N := some 101) #[true, true, true, false, true, true, false, false, true] rfl rfl (one_of HT_.out (by kernel_rfl)) (by decide) (fun K hK => ?_)
            refine Kd.R_lit_step k44 _ 44 ?hg (N := 101) ?hd (xs := ([] : List (S44))) (inner := []) (ok := fun _ => True) (okp := fun _ => True) ?hr ?hp (fun _ hk => hk) trivial (Below.refl _ _) (Nat.le_refl _) (by simp) ?_; (case hd => rfl); (case hg => rfl); (case hr => first | (go_simp; done) | (go_simp; rfl)); (case hp => exact (Reps.none _ _))
            intro v114 w54 ho55 hb hg_ hnew_
            clear hg_ hnew_
            (first | rw [← Ny113.out] at ho55 | (simp only [Int.reduceToNat] at ho55; rw [← Ny113.out] at ho55))
            have n0_ := sA (Kd.R_lower ho55 (below_size (by repeat (first | (with_reducible first | exact HB.out | apply sLA | apply sLN | apply sLD | refine sLS ?_ GE101.out) | exact HB.out))))
            have n1_ := sA (blk_below (sB BK101.out) hb)
            have n2_ := sA (below_step (by repeat (first | (with_reducible first | exact HB.out | apply sLA | apply sLN | apply sLD | refine sLS ?_ GE101.out) | exact HB.out)) hb)
            clear BK101
            clear HB
            have HO115 := n0_
            have BK101 := n1_
            have HB := n2_
            clear n0_ n1_ n2_
            clear hb ho55
            refine hK.out _ _ ⟨sC BK101 0 rfl, sC BK101 1 rfl, sC BK101 2 rfl, sC BK101 3 rfl, sC BK101 4 rfl, sC BK101 5 rfl, sC BK101 6 rfl, sC BK101 7 rfl, sC BK101 8 rfl, sC BK101 9 rfl, sC BK101 10 rfl⟩ (fun hHeld => ?_)
            clear hK K
            refine norm_ (a' := ?_) ?_ ?_
            rotate_left
            ·show Act.put _ (some 101) _ = _
             simp only [Act.put, List.setIfInBounds_toArray, List.set_cons_zero, List.set_cons_succ, i64_w, i32_w]
             rfl
            refine one_ (i := 3) (N := some 104) #[true, true, true, true, true, true, false, false, true] rfl rfl (one_of HT_.out (by kernel_rfl)) (by decide) (fun K hK => ?_)
            refine Kd.R_append_rows_step k44 (w0 := w) w.heap.size (by rfl) (.tmp 101) (.tmp 103) 22 44 (.agg #[(.int .i64 0), (.int .i64 0), (.int .i64 0)]) 24 rfl Try.underlying22 info44 rfl (by decide) (by omega) v114 y113 l0_9 _ _ _ (fun _ => True) (fun _ => False) rfl rfl ?aO ?aR (fun _ _ h => h) (fun _ h => h.elim) ?aF ?aB ?aS ?aL ?_
            (case aR => repeat (first | exact (Kd.C_below HR0_9.out HB.out) | (with_reducible refine Kd.C_alloc ?_ _) | (with_reducible refine Kd.C_drewN ?_ _) | (with_reducible refine Kd.C_drew ?_)))
            (case aB => exact (by repeat (first | (with_reducible first | exact HB.out | apply sLA | apply sLN | apply sLD | refine sLS ?_ GE101.out) | exact HB.out)))
            (case aF => exact (fun _ _ => trivial))
            (case aO => exact (sR HO115.out))
            (case aS => exact (below_size (by repeat (first | (with_reducible first | exact HB.out | apply sLA | apply sLN | apply sLD | refine sLS ?_ GE101.out) | exact HB.out))))
            (case aL => have := LMc51.out; omega)
            intro v117 w56 ho hb hg hat
            rw [← Ny116.out] at ho
            have n0_ := sA (blk_grown (g := gb101) (o := .cells #[.int .i64 a0_0, .int .i64 a0_1, .int .i64 a0_2, .int .i64 a0_3, .int .i64 a0_4, .int .i64 a0_5, .int .i64 a0_6, .int .i64 a0_7, .slice A0_8 l0_8.length c0_8, .slice A0_9 l0_9.length c0_9, .slice A0_10 l0_10.length c0_10] 24 (0, 0)) (sB BK101.out) hg (Kd.R_ne HO115.out BK101.out (by decide)))
            have n1_ := sA (hb)
            have n2_ := sA (ho)
            clear BK101
            clear HB
            clear HO115
            have BK101 := n0_
            have HB := n1_
            have HO118 := n2_
            clear n0_ n1_ n2_
            clear ho hb hg hat
            refine hK.out _ _ ⟨sC BK101 0 rfl, sC BK101 1 rfl, sC BK101 2 rfl, sC BK101 3 rfl, sC BK101 4 rfl, sC BK101 5 rfl, sC BK101 6 rfl, sC BK101 7 rfl, sC BK101 8 rfl, sC BK101 9 rfl, sC BK101 10 rfl⟩ (fun hHeld => ?_)
            clear hK K
            refine norm_ (a' := ?_) ?_ ?_
            rotate_left
            ·show Act.put _ (some 104) _ = _
             simp only [Act.put, List.setIfInBounds_toArray, List.set_cons_zero, List.set_cons_succ, i64_w, i32_w]
             rfl
            refine one_ (i := 6) (N := some 107) #[true, true, true, true, true, true, true, false, true] rfl rfl (one_of HT_.out (by kernel_rfl)) (by decide) (fun K hK => ?_)
            refine Kd.R_append_rows_step k44 (w0 := w) w.heap.size (by rfl) (.tmp 104) (.tmp 106) 22 44 (.agg #[(.int .i64 0), (.int .i64 0), (.int .i64 0)]) 24 rfl Try.underlying22 info44 rfl (by decide) (by omega) v117 y116 l0_10 _ _ _ (fun _ => True) (fun _ => False) rfl rfl ?aO ?aR (fun _ _ h => h) (fun _ h => h.elim) ?aF ?aB ?aS ?aL ?_
            (case aR => repeat (first | exact (Kd.C_below HR0_10.out HB.out) | (with_reducible refine Kd.C_alloc ?_ _) | (with_reducible refine Kd.C_drewN ?_ _) | (with_reducible refine Kd.C_drew ?_)))
            (case aB => exact (by repeat (first | (with_reducible first | exact HB.out | apply sLA | apply sLN | apply sLD | refine sLS ?_ GE101.out) | exact HB.out)))
            (case aF => exact (fun _ _ => trivial))
            (case aO => exact (sR HO118.out))
            (case aS => exact (below_size (by repeat (first | (with_reducible first | exact HB.out | apply sLA | apply sLN | apply sLD | refine sLS ?_ GE101.out) | exact HB.out))))
            (case aL => have := LMc52.out; omega)
            intro v120 w57 ho hb hg hat
            rw [← Ny119.out] at ho
            have n0_ := sA (blk_grown (g := gb101) (o := .cells #[.int .i64 a0_0, .int .i64 a0_1, .int .i64 a0_2, .int .i64 a0_3, .int .i64 a0_4, .int .i64 a0_5, .int .i64 a0_6, .int .i64 a0_7, .slice A0_8 l0_8.length c0_8, .slice A0_9 l0_9.length c0_9, .slice A0_10 l0_10.length c0_10] 24 (0, 0)) (sB BK101.out) hg (Kd.R_ne HO118.out BK101.out (by decide)))
            have n1_ := sA (hb)
            have n2_ := sA (ho)
            clear BK101
            clear HB
            clear HO118
            have BK101 := n0_
            have HB := n1_
            have HO121 := n2_
            clear n0_ n1_ n2_
            clear ho hb hg hat
            obtain ⟨Ao58, co58, eo58⟩ := Kd.R_slice HO121.out
            (first | subst eo58 | (injection eo58 with f1_ f2_ f3_; have f4_ := f1_.symm; have f5_ := f3_.symm; clear f1_ f2_ f3_; subst f4_; subst f5_))
            refine hK.out _ _ ⟨sC BK101 0 rfl, sC BK101 1 rfl, sC BK101 2 rfl, sC BK101 3 rfl, sC BK101 4 rfl, sC BK101 5 rfl, sC BK101 6 rfl, sC BK101 7 rfl, sC BK101 8 rfl, sC BK101 9 rfl, sC BK101 10 rfl⟩ (fun hHeld => ?_)
            clear hK K
            refine norm_ (a' := ?_) ?_ ?_
            rotate_left
            ·show Act.put _ (some 107) _ = _
             simp only [Act.put, List.setIfInBounds_toArray, List.set_cons_zero, List.set_cons_succ, i64_w, i32_w]
             rfl
            refine pure_ (i := 7) (N := some 108) (v := ?_) (a' := ?_) #[true, true, true, true, true, true, true, true, true] rfl rfl (any_of HT_.out (by kernel_rfl)) (fun _ _ _ h => h) (Or.inl ⟨by rfl, ?_⟩) ?_ ?_
            rotate_left
            ·intro w'
             go_simp
             with_reducible rfl
            rotate_left
            ·simp only [Act.put, List.setIfInBounds_toArray, List.set_cons_zero, List.set_cons_succ, i64_w, i32_w]
             rfl
            refine done_ (done_of HT_.out (by kernel_rfl)) ?_
            try go_wp2
            go_loopg [109] k3 (fun kq v109 w' => ∃ (x109_4 : Int), v109 = .int .i64 x109_4 ∧ Aside0 (spec_GoodGreet.l1 kq y119 (y119.length : Int) x109_4 a0_0 a0_1 a0_2 a0_3 a0_4 a0_5 a0_6 a0_7 l0_8 l0_9 l0_10 = some r) ∧ Aside0 (kq ≤ k3) ∧ Aside0 (Kd.R k44 44 w' w.heap.size (fun _ => True) (.slice Ao58 y119.length co58) y119) ∧ Aside0 (w'.heap[gb101]? = some (.cells #[.int .i64 a0_0, .int .i64 a0_1, .int .i64 a0_2, .int .i64 a0_3, .int .i64 a0_4, .int .i64 a0_5, .int .i64 a0_6, .int .i64 a0_7, (.slice A0_8 l0_8.length c0_8), (.slice A0_9 l0_9.length c0_9), (.slice A0_10 l0_10.length c0_10)] 24 (0, 0))) ∧ Aside0 (Below w.heap.size w w'))
            case atStart => exact ⟨(0), (by first | rfl | (simp; done) | (simp [*]; done)), H', ⟨Nat.le_refl _⟩, ⟨sR HO121.out⟩, ⟨sB BK101.out⟩, ⟨by repeat (first | (with_reducible first | exact HB.out | apply sLA | apply sLN | apply sLD | refine sLS ?_ GE101.out) | exact HB.out)⟩⟩
            case round =>
             clear H'
             try clear c1
             try clear p1
             try clear q1
             try clear hx1
             try clear c2
             try clear p2
             try clear c3
             try clear c4
             try clear c5
             try clear p6
             try clear c7
             try clear c9
             try clear c11
             try clear p11
             try clear q11
             try clear hx11
             try clear c12
             try clear c12b0
             try clear c12b1
             try clear c14
             try clear c14b0
             try clear c14b1
             try clear c21
             try clear c22
             try clear c23
             try clear c24
             try clear c26
             try clear c28
             try clear c34
             try clear c36
             try clear c36b0
             try clear c37
             try clear c37b0
             try clear c38
             try clear c38b0
             try clear c40
             try clear c42
             try clear c47
             try clear c51
             try clear c52
             try clear hcz13_0
             try clear hcz13_1
             try clear hcz13_10
             try clear hcz13_2
             try clear hcz13_3
             try clear hcz13_4
             try clear hcz13_5
             try clear hcz13_6
             try clear hcz13_7
             try clear hcz13_8
             try clear hcz13_9
             try clear hcz15_0
             try clear hcz15_1
             try clear hcz15_10
             try clear hcz15_2
             try clear hcz15_3
             try clear hcz15_4
             try clear hcz15_5
             try clear hcz15_6
             try clear hcz15_7
             try clear hcz15_8
             try clear hcz15_9
             try clear hcz16_0
             try clear hcz16_1
             try clear hcz16_10
             try clear hcz16_2
             try clear hcz16_3
             try clear hcz16_4
             try clear hcz16_5
             try clear hcz16_6
             try clear hcz16_7
             try clear hcz16_8
             try clear hcz16_9
             try clear hcz17_0
             try clear hcz17_1
             try clear hcz17_10
             try clear hcz17_2
             try clear hcz17_3
             try clear hcz17_4
             try clear hcz17_5
             try clear hcz17_6
             try clear hcz17_7
             try clear hcz17_8
             try clear hcz17_9
             try clear hcz18_0
             try clear hcz18_1
             try clear hcz18_10
             try clear hcz18_2
             try clear hcz18_3
             try clear hcz18_4
             try clear hcz18_5
             try clear hcz18_6
             try clear hcz18_7
             try clear hcz18_8
             try clear hcz18_9
             try clear hcz19_0
             try clear hcz19_1
             try clear hcz19_10
             try clear hcz19_2
             try clear hcz19_3
             try clear hcz19_4
             try clear hcz19_5
             try clear hcz19_6
             try clear hcz19_7
             try clear hcz19_8
             try clear hcz19_9
             try clear hcz20_0
             try clear hcz20_1
             try clear hcz20_10
             try clear hcz20_2
             try clear hcz20_3
             try clear hcz20_4
             try clear hcz20_5
             try clear hcz20_6
             try clear hcz20_7
             try clear hcz20_8
             try clear hcz20_9
             try clear hcz30_0
             try clear hcz30_1
             try clear hcz30_10
             try clear hcz30_2
             try clear hcz30_3
             try clear hcz30_4
             try clear hcz30_5
             try clear hcz30_6
             try clear hcz30_7
             try clear hcz30_8
             try clear hcz30_9
             try clear hcz31_0
             try clear hcz31_1
             try clear hcz31_10
             try clear hcz31_2
             try clear hcz31_3
             try clear hcz31_4
             try clear hcz31_5
             try clear hcz31_6
             try clear hcz31_7
             try clear hcz31_8
             try clear hcz31_9
             try clear hcz32_0
             try clear hcz32_1
             try clear hcz32_10
             try clear hcz32_2
             try clear hcz32_3
             try clear hcz32_4
             try clear hcz32_5
             try clear hcz32_6
             try clear hcz32_7
             try clear hcz32_8
             try clear hcz32_9
             try clear hcz33_0
             try clear hcz33_1
             try clear hcz33_10
             try clear hcz33_2
             try clear hcz33_3
             try clear hcz33_4
             try clear hcz33_5
             try clear hcz33_6
             try clear hcz33_7
             try clear hcz33_8
             try clear hcz33_9
             try clear hcz35_0
             try clear hcz35_1
             try clear hcz35_10
             try clear hcz35_2
             try clear hcz35_3
             try clear hcz35_4
             try clear hcz35_5
             try clear hcz35_6
             try clear hcz35_7
             try clear hcz35_8
             try clear hcz35_9
             try clear hcz43_0
             try clear hcz43_1
             try clear hcz43_2
             try clear hcz44_0
             try clear hcz44_1
             try clear hcz44_10
             try clear hcz44_2
             try clear hcz44_3
             try clear hcz44_4
             try clear hcz44_5
             try clear hcz44_6
             try clear hcz44_7
             try clear hcz44_8
             try clear hcz44_9
             try clear hcz48_0
             try clear hcz48_1
             try clear hcz48_2
             try clear hcz49_0
             try clear hcz49_1
             try clear hcz49_10
             try clear hcz49_2
             try clear hcz49_3
             try clear hcz49_4
             try clear hcz49_5
             try clear hcz49_6
             try clear hcz49_7
             try clear hcz49_8
             try clear hcz49_9
             try clear hfz13_0
             try clear hfz13_1
             try clear hfz13_10
             try clear hfz13_2
             try clear hfz13_3
             try clear hfz13_4
             try clear hfz13_5
             try clear hfz13_6
             try clear hfz13_7
             try clear hfz13_8
             try clear hfz13_9
             try clear hfz15_0
             try clear hfz15_1
             try clear hfz15_10
             try clear hfz15_2
             try clear hfz15_3
             try clear hfz15_4
             try clear hfz15_5
             try clear hfz15_6
             try clear hfz15_7
             try clear hfz15_8
             try clear hfz15_9
             try clear hfz16_0
             try clear hfz16_1
             try clear hfz16_10
             try clear hfz16_2
             try clear hfz16_3
             try clear hfz16_4
             try clear hfz16_5
             try clear hfz16_6
             try clear hfz16_7
             try clear hfz16_8
             try clear hfz16_9
             try clear hfz17_0
             try clear hfz17_1
             try clear hfz17_10
             try clear hfz17_2
             try clear hfz17_3
             try clear hfz17_4
             try clear hfz17_5
             try clear hfz17_6
             try clear hfz17_7
             try clear hfz17_8
             try clear hfz17_9
             try clear hfz18_0
             try clear hfz18_1
             try clear hfz18_10
             try clear hfz18_2
             try clear hfz18_3
             try clear hfz18_4
             try clear hfz18_5
             try clear hfz18_6
             try clear hfz18_7
             try clear hfz18_8
             try clear hfz18_9
             try clear hfz19_0
             try clear hfz19_1
             try clear hfz19_10
             try clear hfz19_2
             try clear hfz19_3
             try clear hfz19_4
             try clear hfz19_5
             try clear hfz19_6
             try clear hfz19_7
             try clear hfz19_8
             try clear hfz19_9
             try clear hfz20_0
             try clear hfz20_1
             try clear hfz20_10
             try clear hfz20_2
             try clear hfz20_3
             try clear hfz20_4
             try clear hfz20_5
             try clear hfz20_6
             try clear hfz20_7
             try clear hfz20_8
             try clear hfz20_9
             try clear hfz30_0
             try clear hfz30_1
             try clear hfz30_10
             try clear hfz30_2
             try clear hfz30_3
             try clear hfz30_4
             try clear hfz30_5
             try clear hfz30_6
             try clear hfz30_7
             try clear hfz30_8
             try clear hfz30_9
             try clear hfz31_0
             try clear hfz31_1
             try clear hfz31_10
             try clear hfz31_2
             try clear hfz31_3
             try clear hfz31_4
             try clear hfz31_5
             try clear hfz31_6
             try clear hfz31_7
             try clear hfz31_8
             try clear hfz31_9
             try clear hfz32_0
             try clear hfz32_1
             try clear hfz32_10
             try clear hfz32_2
             try clear hfz32_3
             try clear hfz32_4
             try clear hfz32_5
             try clear hfz32_6
             try clear hfz32_7
             try clear hfz32_8
             try clear hfz32_9
             try clear hfz33_0
             try clear hfz33_1
             try clear hfz33_10
             try clear hfz33_2
             try clear hfz33_3
             try clear hfz33_4
             try clear hfz33_5
             try clear hfz33_6
             try clear hfz33_7
             try clear hfz33_8
             try clear hfz33_9
             try clear hfz35_0
             try clear hfz35_1
             try clear hfz35_10
             try clear hfz35_2
             try clear hfz35_3
             try clear hfz35_4
             try clear hfz35_5
             try clear hfz35_6
             try clear hfz35_7
             try clear hfz35_8
             try clear hfz35_9
             try clear hfz43_0
             try clear hfz43_1
             try clear hfz43_2
             try clear hfz44_0
             try clear hfz44_1
             try clear hfz44_10
             try clear hfz44_2
             try clear hfz44_3
             try clear hfz44_4
             try clear hfz44_5
             try clear hfz44_6
             try clear hfz44_7
             try clear hfz44_8
             try clear hfz44_9
             try clear hfz48_0
             try clear hfz48_1
             try clear hfz48_2
             try clear hfz49_0
             try clear hfz49_1
             try clear hfz49_10
             try clear hfz49_2
             try clear hfz49_3
             try clear hfz49_4
             try clear hfz49_5
             try clear hfz49_6
             try clear hfz49_7
             try clear hfz49_8
             try clear hfz49_9
             try clear hx110_0
             try clear hx110_1
             try clear hx110_2
             try clear p110
             try clear p2
             try clear q110
             obtain ⟨x109_4, rfl, HA, HK4, HO_107, BK101, HB⟩ := hrel
             cases gk with
             | zero => exact absurd HA.out (by simp [spec_GoodGreet.l1])
             | succ k4 =>
              have H := HA.out
              clear HA
              simp only [spec_GoodGreet.l1] at H
              by_cases c59 : x109_4 < (y119.length : Int)
              ·rw [if_pos c59] at H
               have c59b0 : decide (x109_4 < (y119.length : Int)) = true := decide_eq_true c59
               clear c59
               by_cases c60 : 0 ≤ x109_4
               ·rw [if_pos c60] at H
                have c60b0 : decide (0 ≤ x109_4) = true := decide_eq_true c60
                clear c60
                by_cases c61 : x109_4 < (y119.length : Int)
                ·rw [if_pos c61] at H
                 have c61b0 : decide (x109_4 < (y119.length : Int)) = true := decide_eq_true c61
                 clear c61
                 by_cases c62 : ((rd_T44 y119 x109_4).f0) = 3
                 ·rw [if_pos c62] at H
                  have c62b0 : (((rd_T44 y119 x109_4).f0) == 3) = true := beq_iff_eq.mpr c62
                  have c62b1 : (((rd_T44 y119 x109_4).f0) != 3) = false := bne_eq_false_iff_eq.mpr c62
                  clear c62
                  replace H := Option.bind_eq_some_iff.mp H
                  obtain ⟨t124, A630, H⟩ := H
                  replace H : (if t124 = true then (spec_GoodGreet.l1 k4 y119 (y119.length : Int) (wrap64 (x109_4 + 1)) a0_0 a0_1 a0_2 a0_3 a0_4 a0_5 a0_6 a0_7 l0_8 l0_9 l0_10) else (some false)) = some r := H
                  have A63 := sA A630
                  clear A630
                  by_cases c64 : t124 = true
                  ·subst c64
                   have H1 : (spec_GoodGreet.l1 k4 y119 (y119.length : Int) (wrap64 (x109_4 + 1)) a0_0 a0_1 a0_2 a0_3 a0_4 a0_5 a0_6 a0_7 l0_8 l0_9 l0_10) = some r := by rw [if_pos rfl] at H; exact H
                   clear H
                   have H := H1
                   clear H1
                   have H' := sA H
                   clear H
                   have p122 : 0 ≤ (x109_4 : Int) := of_decide_eq_true (by first | (with_reducible assumption) | assumption)
                   have q122 : x109_4 < (y119.length : Int) := of_decide_eq_true (by first | (with_reducible assumption) | assumption)
                   obtain ⟨ad122, e122, hx122_0, hx122_1, hx122_2⟩ := at_T44 (Kd.R_reads' HO_107.out).2.2 x109_4 p122 q122
                   cases e122
                   replace p122 := eq_true p122
                   replace q122 := eq_true q122
                   go_wp2_with (first | ((with_reducible refine gate_dst (N := 6) rfl ?_); (try (refine gate_guard (by rfl) ?_; dsimp only)); refine box_event ?hg (N := 6) ?hd (cs := #[.int .i64 0, .int .i64 0, .int .i64 0]) (t := 44) ?hr ?_; (case hd => rfl); (case hg => rfl); (case hr => first | (go_simp; done) | (go_simp; rfl)); intro gb123 hg w65 hbox hb; have n0_ := sA (Kd.R_below (Kd.R_elderB (sR HO_107.out) gb123 (Nat.le_of_eq hg.symm)) hb); have n1_ := sA (blk_below (sB BK101.out) hb); have n2_ := sA (below_step (by repeat (first | (with_reducible first | exact HB.out | apply sLA | apply sLN | apply sLD | refine sLS ?_ GE101.out) | exact HB.out)) hb); have n3_ := sA (hbox); have n4_ := sA ((by rw [hg]; exact (below_size (by repeat (first | (with_reducible first | exact HB.out | apply sLA | apply sLN | apply sLD | refine sLS ?_ GE101.out) | exact HB.out))) : w.heap.size ≤ gb123)); have n5_ := sA ((by rw [hg]; exact (below_size (by repeat (first | (with_reducible first | exact HB.out | apply sLA | apply sLN | apply sLD | refine sLS ?_ GE101.out) | exact HB.out))) : w.heap.size ≤ gb123)); have n6_ := sA ((by rw [hg]; exact Nat.ne_of_lt (blk_lt (sB BK101.out)) : gb101 ≠ gb123)); have n7_ := sA ((by rw [hg]; exact Nat.ne_of_gt (blk_lt (sB BK101.out)) : gb123 ≠ gb101)); clear HO_107; clear BK101; clear HB; have HO_107 := n0_; have BK101 := n1_; have HB := n2_; have BK123 := n3_; have GW123 := n4_; have GE123 := n5_; have NB101_123 := n6_; have NB123_101 := n7_; clear n0_ n1_ n2_ n3_ n4_ n5_ n6_ n7_; clear hb hbox hg; have hnb66 := NB123_101.out; have hnc66 := NB101_123.out; have hcz67_0 : w65.cell? ⟨gb123, 0, none⟩ = some (.int .i64 0) := sC BK123 0 rfl; have hcz67_1 : w65.cell? ⟨gb123, 1, none⟩ = some (.int .i64 0) := sC BK123 1 rfl; have hcz67_2 : w65.cell? ⟨gb123, 2, none⟩ = some (.int .i64 0) := sC BK123 2 rfl; have hfz67_0 := blk_frozen BK123.out 0; have hfz67_1 := blk_frozen BK123.out 1; have hfz67_2 := blk_frozen BK123.out 2; have hcz68_0 : w65.cell? ⟨gb101, 0, none⟩ = some (.int .i64 a0_0) := sC BK101 0 rfl; have hcz68_1 : w65.cell? ⟨gb101, 1, none⟩ = some (.int .i64 a0_1) := sC BK101 1 rfl; have hcz68_2 : w65.cell? ⟨gb101, 2, none⟩ = some (.int .i64 a0_2) := sC BK101 2 rfl; have hcz68_3 : w65.cell? ⟨gb101, 3, none⟩ = some (.int .i64 a0_3) := sC BK101 3 rfl; have hcz68_4 : w65.cell? ⟨gb101, 4, none⟩ = some (.int .i64 a0_4) := sC BK101 4 rfl; have hcz68_5 : w65.cell? ⟨gb101, 5, none⟩ = some (.int .i64 a0_5) := sC BK101 5 rfl; have hcz68_6 : w65.cell? ⟨gb101, 6, none⟩ = some (.int .i64 a0_6) := sC BK101 6 rfl; have hcz68_7 : w65.cell? ⟨gb101, 7, none⟩ = some (.int .i64 a0_7) := sC BK101 7 rfl; have hcz68_8 : w65.cell? ⟨gb101, 8, none⟩ = some (.slice A0_8 l0_8.length c0_8) := sC BK101 8 rfl; have hcz68_9 : w65.cell? ⟨gb101, 9, none⟩ = some (.slice A0_9 l0_9.length c0_9) := sC BK101 9 rfl; have hcz68_10 : w65.cell? ⟨gb101, 10, none⟩ = some (.slice A0_10 l0_10.length c0_10) := sC BK101 10 rfl; have hfz68_0 := blk_frozen BK101.out 0; have hfz68_1 := blk_frozen BK101.out 1; have hfz68_2 := blk_frozen BK101.out 2; have hfz68_3 := blk_frozen BK101.out 3; have hfz68_4 := blk_frozen BK101.out 4; have hfz68_5 := blk_frozen BK101.out 5; have hfz68_6 := blk_frozen BK101.out 6; have hfz68_7 := blk_frozen BK101.out 7; have hfz68_8 := blk_frozen BK101.out 8; have hfz68_9 := blk_frozen BK101.out 9; have hfz68_10 := blk_frozen BK101.out 10) | (go_at_call 23; (with_reducible refine (spec_l15Letter.calls a0_0 a0_1 a0_2 a0_3 a0_4 a0_5 a0_6 a0_7 _ _ l0_8 _ _ l0_9 _ _ l0_10 ((rd_T44 y119 x109_4).f0) ((rd_T44 y119 x109_4).f1) ((rd_T44 y119 x109_4).f2) true _ ?side1 ?side2 ?side3 ?side4 ?side5 ?side6 A63.out).mono ?_); (case side1 => exact Kd.C_below HR0_8.out (by repeat (first | (with_reducible first | exact HB.out | apply sLA | apply sLN | apply sLD | refine sLS ?_ (Aside0.out (by assumption))) | exact HB.out))); (case side2 => exact HC0_8.out); (case side3 => exact Kd.C_below HR0_9.out (by repeat (first | (with_reducible first | exact HB.out | apply sLA | apply sLN | apply sLD | refine sLS ?_ (Aside0.out (by assumption))) | exact HB.out))); (case side4 => exact HC0_9.out); (case side5 => exact Kd.C_below HR0_10.out (by repeat (first | (with_reducible first | exact HB.out | apply sLA | apply sLN | apply sLD | refine sLS ?_ (Aside0.out (by assumption))) | exact HB.out))); (case side6 => exact HC0_10.out); rintro e w69 ⟨rfl, hb⟩; have n0_ := sA (Kd.R_below (sR (Kd.R_mono (Kd.R_far (p := ⟨gb123, 2, none⟩) (Kd.R_far (p := ⟨gb123, 1, none⟩) (Kd.R_far (p := ⟨gb123, 0, none⟩) (Kd.R_mono HO_107.out (fun k_ hk => (⟨hk, hk.2⟩ : _ ∧ k_ ≠ gb123))) (fun _ hk => hk.2) (.int .i64 ((rd_T44 y119 x109_4).f0))) (fun _ hk => hk.2) (.int .i64 ((rd_T44 y119 x109_4).f1))) (fun _ hk => hk.2) (.int .i64 ((rd_T44 y119 x109_4).f2))) (fun _ h_ => h_.1))) hb); have n1_ := sA (blk_below (g := gb101) (o := .cells #[.int .i64 a0_0, .int .i64 a0_1, .int .i64 a0_2, .int .i64 a0_3, .int .i64 a0_4, .int .i64 a0_5, .int .i64 a0_6, .int .i64 a0_7, .slice A0_8 l0_8.length c0_8, .slice A0_9 l0_9.length c0_9, .slice A0_10 l0_10.length c0_10] 24 (0, 0)) (by (with_reducible repeat first | apply blk_drewN | apply blk_drew | apply blk_alloc); refine blk_far ?_ NB101_123.out _; (with_reducible repeat first | apply blk_drewN | apply blk_drew | apply blk_alloc); refine blk_far ?_ NB101_123.out _; (with_reducible repeat first | apply blk_drewN | apply blk_drew | apply blk_alloc); refine blk_far ?_ NB101_123.out _; (with_reducible repeat first | apply blk_drewN | apply blk_drew | apply blk_alloc); exact BK101.out) hb); have n2_ := sA (blk_below (g := gb123) (o := .cells #[.int .i64 ((rd_T44 y119 x109_4).f0), .int .i64 ((rd_T44 y119 x109_4).f1), .int .i64 ((rd_T44 y119 x109_4).f2)] 44 (0, 0)) (by (with_reducible repeat first | apply blk_drewN | apply blk_drew | apply blk_alloc); refine blk_put (cs := #[.int .i64 ((rd_T44 y119 x109_4).f0), .int .i64 ((rd_T44 y119 x109_4).f1), .int .i64 0]) ?_ 2 _ rfl; (with_reducible repeat first | apply blk_drewN | apply blk_drew | apply blk_alloc); refine blk_put (cs := #[.int .i64 ((rd_T44 y119 x109_4).f0), .int .i64 0, .int .i64 0]) ?_ 1 _ rfl; (with_reducible repeat first | apply blk_drewN | apply blk_drew | apply blk_alloc); refine blk_put (cs := #[.int .i64 0, .int .i64 0, .int .i64 0]) ?_ 0 _ rfl; (with_reducible repeat first | apply blk_drewN | apply blk_drew | apply blk_alloc); exact BK123.out) hb); have n3_ := sA (below_step (by repeat (first | (with_reducible first | exact HB.out | apply sLA | apply sLN | apply sLD | refine sLS ?_ (Aside0.out (by assumption))) | exact HB.out)) hb); clear HO_107; clear BK101; clear BK123; clear HB; have HO_107 := n0_; have BK101 := n1_; have BK123 := n2_; have HB := n3_; clear n0_ n1_ n2_ n3_; (try clear hb); (try clear hb2); (try clear hk); (try clear hi)))
                   go_roundg k4
                   case measure => have := HJ1.out; have := HJ21.out; have := HK3.out; have := HK4.out; omega
                   case rel => exact ⟨(wrap64 (x109_4 + 1)), (by first | rfl | (simp; done) | (simp [*]; done)), H', ⟨by have := HJ1.out; have := HJ21.out; have := HK3.out; have := HK4.out; omega⟩, ⟨sR (Kd.R_mono HO_107.out (fun _ hk => trivial))⟩, ⟨sB BK101.out⟩, ⟨by repeat (first | (with_reducible first | exact HB.out | apply sLA | apply sLN | apply sLD | refine sLS ?_ GE101.out | refine sLS ?_ GE123.out) | exact HB.out)⟩⟩
                  ·replace c64 := Bool.eq_false_iff.mpr c64
                   subst c64
                   have H1 : (some false) = some r := by rw [if_neg (show ¬ (false = true) by decide)] at H; exact H
                   clear H
                   have H := H1
                   clear H1
                   obtain rfl := Option.some.inj H
                   have p122 : 0 ≤ (x109_4 : Int) := of_decide_eq_true (by first | (with_reducible assumption) | assumption)
                   have q122 : x109_4 < (y119.length : Int) := of_decide_eq_true (by first | (with_reducible assumption) | assumption)
                   obtain ⟨ad122, e122, hx122_0, hx122_1, hx122_2⟩ := at_T44 (Kd.R_reads' HO_107.out).2.2 x109_4 p122 q122
                   cases e122
                   replace p122 := eq_true p122
                   replace q122 := eq_true q122
                   go_wp2_with (first | ((with_reducible refine gate_dst (N := 6) rfl ?_); (try (refine gate_guard (by rfl) ?_; dsimp only)); refine box_event ?hg (N := 6) ?hd (cs := #[.int .i64 0, .int .i64 0, .int .i64 0]) (t := 44) ?hr ?_; (case hd => rfl); (case hg => rfl); (case hr => first | (go_simp; done) | (go_simp; rfl)); intro gb123 hg w70 hbox hb; have n0_ := sA (Kd.R_below (Kd.R_elderB (sR HO_107.out) gb123 (Nat.le_of_eq hg.symm)) hb); have n1_ := sA (blk_below (sB BK101.out) hb); have n2_ := sA (below_step (by repeat (first | (with_reducible first | exact HB.out | apply sLA | apply sLN | apply sLD | refine sLS ?_ GE101.out) | exact HB.out)) hb); have n3_ := sA (hbox); have n4_ := sA ((by rw [hg]; exact (below_size (by repeat (first | (with_reducible first | exact HB.out | apply sLA | apply sLN | apply sLD | refine sLS ?_ GE101.out) | exact HB.out))) : w.heap.size ≤ gb123)); have n5_ := sA ((by rw [hg]; exact (below_size (by repeat (first | (with_reducible first | exact HB.out | apply sLA | apply sLN | apply sLD | refine sLS ?_ GE101.out) | exact HB.out))) : w.heap.size ≤ gb123)); have n6_ := sA ((by rw [hg]; exact Nat.ne_of_lt (blk_lt (sB BK101.out)) : gb101 ≠ gb123)); have n7_ := sA ((by rw [hg]; exact Nat.ne_of_gt (blk_lt (sB BK101.out)) : gb123 ≠ gb101)); clear HO_107; clear BK101; clear HB; have HO_107 := n0_; have BK101 := n1_; have HB := n2_; have BK123 := n3_; have GW123 := n4_; have GE123 := n5_; have NB101_123 := n6_; have NB123_101 := n7_; clear n0_ n1_ n2_ n3_ n4_ n5_ n6_ n7_; clear hb hbox hg; have hnb71 := NB123_101.out; have hnc71 := NB101_123.out; have hcz72_0 : w70.cell? ⟨gb123, 0, none⟩ = some (.int .i64 0) := sC BK123 0 rfl; have hcz72_1 : w70.cell? ⟨gb123, 1, none⟩ = some (.int .i64 0) := sC BK123 1 rfl; have hcz72_2 : w70.cell? ⟨gb123, 2, none⟩ = some (.int .i64 0) := sC BK123 2 rfl; have hfz72_0 := blk_frozen BK123.out 0; have hfz72_1 := blk_frozen BK123.out 1; have hfz72_2 := blk_frozen BK123.out 2; have hcz73_0 : w70.cell? ⟨gb101, 0, none⟩ = some (.int .i64 a0_0) := sC BK101 0 rfl; have hcz73_1 : w70.cell? ⟨gb101, 1, none⟩ = some (.int .i64 a0_1) := sC BK101 1 rfl; have hcz73_2 : w70.cell? ⟨gb101, 2, none⟩ = some (.int .i64 a0_2) := sC BK101 2 rfl; have hcz73_3 : w70.cell? ⟨gb101, 3, none⟩ = some (.int .i64 a0_3) := sC BK101 3 rfl; have hcz73_4 : w70.cell? ⟨gb101, 4, none⟩ = some (.int .i64 a0_4) := sC BK101 4 rfl; have hcz73_5 : w70.cell? ⟨gb101, 5, none⟩ = some (.int .i64 a0_5) := sC BK101 5 rfl; have hcz73_6 : w70.cell? ⟨gb101, 6, none⟩ = some (.int .i64 a0_6) := sC BK101 6 rfl; have hcz73_7 : w70.cell? ⟨gb101, 7, none⟩ = some (.int .i64 a0_7) := sC BK101 7 rfl; have hcz73_8 : w70.cell? ⟨gb101, 8, none⟩ = some (.slice A0_8 l0_8.length c0_8) := sC BK101 8 rfl; have hcz73_9 : w70.cell? ⟨gb101, 9, none⟩ = some (.slice A0_9 l0_9.length c0_9) := sC BK101 9 rfl; have hcz73_10 : w70.cell? ⟨gb101, 10, none⟩ = some (.slice A0_10 l0_10.length c0_10) := sC BK101 10 rfl; have hfz73_0 := blk_frozen BK101.out 0; have hfz73_1 := blk_frozen BK101.out 1; have hfz73_2 := blk_frozen BK101.out 2; have hfz73_3 := blk_frozen BK101.out 3; have hfz73_4 := blk_frozen BK101.out 4; have hfz73_5 := blk_frozen BK101.out 5; have hfz73_6 := blk_frozen BK101.out 6; have hfz73_7 := blk_frozen BK101.out 7; have hfz73_8 := blk_frozen BK101.out 8; have hfz73_9 := blk_frozen BK101.out 9; have hfz73_10 := blk_frozen BK101.out 10) | (go_at_call 23; (with_reducible refine (spec_l15Letter.calls a0_0 a0_1 a0_2 a0_3 a0_4 a0_5 a0_6 a0_7 _ _ l0_8 _ _ l0_9 _ _ l0_10 ((rd_T44 y119 x109_4).f0) ((rd_T44 y119 x109_4).f1) ((rd_T44 y119 x109_4).f2) false _ ?side1 ?side2 ?side3 ?side4 ?side5 ?side6 A63.out).mono ?_); (case side1 => exact Kd.C_below HR0_8.out (by repeat (first | (with_reducible first | exact HB.out | apply sLA | apply sLN | apply sLD | refine sLS ?_ (Aside0.out (by assumption))) | exact HB.out))); (case side2 => exact HC0_8.out); (case side3 => exact Kd.C_below HR0_9.out (by repeat (first | (with_reducible first | exact HB.out | apply sLA | apply sLN | apply sLD | refine sLS ?_ (Aside0.out (by assumption))) | exact HB.out))); (case side4 => exact HC0_9.out); (case side5 => exact Kd.C_below HR0_10.out (by repeat (first | (with_reducible first | exact HB.out | apply sLA | apply sLN | apply sLD | refine sLS ?_ (Aside0.out (by assumption))) | exact HB.out))); (case side6 => exact HC0_10.out); rintro e w74 ⟨rfl, hb⟩; have n0_ := sA (Kd.R_below (sR (Kd.R_mono (Kd.R_far (p := ⟨gb123, 2, none⟩) (Kd.R_far (p := ⟨gb123, 1, none⟩) (Kd.R_far (p := ⟨gb123, 0, none⟩) (Kd.R_mono HO_107.out (fun k_ hk => (⟨hk, hk.2⟩ : _ ∧ k_ ≠ gb123))) (fun _ hk => hk.2) (.int .i64 ((rd_T44 y119 x109_4).f0))) (fun _ hk => hk.2) (.int .i64 ((rd_T44 y119 x109_4).f1))) (fun _ hk => hk.2) (.int .i64 ((rd_T44 y119 x109_4).f2))) (fun _ h_ => h_.1))) hb); have n1_ := sA (blk_below (g := gb101) (o := .cells #[.int .i64 a0_0, .int .i64 a0_1, .int .i64 a0_2, .int .i64 a0_3, .int .i64 a0_4, .int .i64 a0_5, .int .i64 a0_6, .int .i64 a0_7, .slice A0_8 l0_8.length c0_8, .slice A0_9 l0_9.length c0_9, .slice A0_10 l0_10.length c0_10] 24 (0, 0)) (by (with_reducible repeat first | apply blk_drewN | apply blk_drew | apply blk_alloc); refine blk_far ?_ NB101_123.out _; (with_reducible repeat first | apply blk_drewN | apply blk_drew | apply blk_alloc); refine blk_far ?_ NB101_123.out _; (with_reducible repeat first | apply blk_drewN | apply blk_drew | apply blk_alloc); refine blk_far ?_ NB101_123.out _; (with_reducible repeat first | apply blk_drewN | apply blk_drew | apply blk_alloc); exact BK101.out) hb); have n2_ := sA (blk_below (g := gb123) (o := .cells #[.int .i64 ((rd_T44 y119 x109_4).f0), .int .i64 ((rd_T44 y119 x109_4).f1), .int .i64 ((rd_T44 y119 x109_4).f2)] 44 (0, 0)) (by (with_reducible repeat first | apply blk_drewN | apply blk_drew | apply blk_alloc); refine blk_put (cs := #[.int .i64 ((rd_T44 y119 x109_4).f0), .int .i64 ((rd_T44 y119 x109_4).f1), .int .i64 0]) ?_ 2 _ rfl; (with_reducible repeat first | apply blk_drewN | apply blk_drew | apply blk_alloc); refine blk_put (cs := #[.int .i64 ((rd_T44 y119 x109_4).f0), .int .i64 0, .int .i64 0]) ?_ 1 _ rfl; (with_reducible repeat first | apply blk_drewN | apply blk_drew | apply blk_alloc); refine blk_put (cs := #[.int .i64 0, .int .i64 0, .int .i64 0]) ?_ 0 _ rfl; (with_reducible repeat first | apply blk_drewN | apply blk_drew | apply blk_alloc); exact BK123.out) hb); have n3_ := sA (below_step (by repeat (first | (with_reducible first | exact HB.out | apply sLA | apply sLN | apply sLD | refine sLS ?_ (Aside0.out (by assumption))) | exact HB.out)) hb); clear HO_107; clear BK101; clear BK123; clear HB; have HO_107 := n0_; have BK101 := n1_; have BK123 := n2_; have HB := n3_; clear n0_ n1_ n2_ n3_; (try clear hb); (try clear hb2); (try clear hk); (try clear hi)))
                   go_ret
                   exact ⟨by first | rfl | (simp [errW_none, errW_some] <;> rfl) | (simp [*, errW_none, errW_some] <;> rfl), by repeat (first | (with_reducible first | exact HB.out | apply sLA | apply sLN | apply sLD | refine sLS ?_ GE101.out | refine sLS ?_ GE123.out) | exact HB.out)⟩
                 ·rw [if_neg c62] at H
                  have c62b0 : (((rd_T44 y119 x109_4).f0) == 3) = false := beq_eq_false_iff_ne.mpr c62
                  have c62b1 : (((rd_T44 y119 x109_4).f0) != 3) = true := bne_iff_ne.mpr c62
                  obtain rfl := Option.some.inj H
                  have p122 : 0 ≤ (x109_4 : Int) := of_decide_eq_true (by first | (with_reducible assumption) | assumption)
                  have q122 : x109_4 < (y119.length : Int) := of_decide_eq_true (by first | (with_reducible assumption) | assumption)
                  obtain ⟨ad122, e122, hx122_0, hx122_1, hx122_2⟩ := at_T44 (Kd.R_reads' HO_107.out).2.2 x109_4 p122 q122
                  cases e122
                  replace p122 := eq_true p122
                  replace q122 := eq_true q122
                  go_wp2_with (first | ((with_reducible refine gate_dst (N := 6) rfl ?_); (try (refine gate_guard (by rfl) ?_; dsimp only)); refine box_event ?hg (N := 6) ?hd (cs := #[.int .i64 0, .int .i64 0, .int .i64 0]) (t := 44) ?hr ?_; (case hd => rfl); (case hg => rfl); (case hr => first | (go_simp; done) | (go_simp; rfl)); intro gb123 hg w75 hbox hb; have n0_ := sA (Kd.R_below (Kd.R_elderB (sR HO_107.out) gb123 (Nat.le_of_eq hg.symm)) hb); have n1_ := sA (blk_below (sB BK101.out) hb); have n2_ := sA (below_step (by repeat (first | (with_reducible first | exact HB.out | apply sLA | apply sLN | apply sLD | refine sLS ?_ GE101.out) | exact HB.out)) hb); have n3_ := sA (hbox); have n4_ := sA ((by rw [hg]; exact (below_size (by repeat (first | (with_reducible first | exact HB.out | apply sLA | apply sLN | apply sLD | refine sLS ?_ GE101.out) | exact HB.out))) : w.heap.size ≤ gb123)); have n5_ := sA ((by rw [hg]; exact (below_size (by repeat (first | (with_reducible first | exact HB.out | apply sLA | apply sLN | apply sLD | refine sLS ?_ GE101.out) | exact HB.out))) : w.heap.size ≤ gb123)); have n6_ := sA ((by rw [hg]; exact Nat.ne_of_lt (blk_lt (sB BK101.out)) : gb101 ≠ gb123)); have n7_ := sA ((by rw [hg]; exact Nat.ne_of_gt (blk_lt (sB BK101.out)) : gb123 ≠ gb101)); clear HO_107; clear BK101; clear HB; have HO_107 := n0_; have BK101 := n1_; have HB := n2_; have BK123 := n3_; have GW123 := n4_; have GE123 := n5_; have NB101_123 := n6_; have NB123_101 := n7_; clear n0_ n1_ n2_ n3_ n4_ n5_ n6_ n7_; clear hb hbox hg; have hnb76 := NB123_101.out; have hnc76 := NB101_123.out; have hcz77_0 : w75.cell? ⟨gb123, 0, none⟩ = some (.int .i64 0) := sC BK123 0 rfl; have hcz77_1 : w75.cell? ⟨gb123, 1, none⟩ = some (.int .i64 0) := sC BK123 1 rfl; have hcz77_2 : w75.cell? ⟨gb123, 2, none⟩ = some (.int .i64 0) := sC BK123 2 rfl; have hfz77_0 := blk_frozen BK123.out 0; have hfz77_1 := blk_frozen BK123.out 1; have hfz77_2 := blk_frozen BK123.out 2))
                  go_ret
                  exact ⟨by first | rfl | (simp [errW_none, errW_some] <;> rfl) | (simp [*, errW_none, errW_some] <;> rfl), by repeat (first | (with_reducible first | exact HB.out | apply sLA | apply sLN | apply sLD | refine sLS ?_ GE101.out | refine sLS ?_ GE123.out) | exact HB.out)⟩
                ·rw [if_neg c61] at H
                 exact absurd H (by simp)
               ·rw [if_neg c60] at H
                exact absurd H (by simp)
              ·rw [if_neg c59] at H
               have c59b0 : decide (x109_4 < (y119.length : Int)) = false := decide_eq_false c59
               clear c59
               obtain rfl := Option.some.inj H
               go_wp2
               go_ret
               exact ⟨by first | rfl | (simp [errW_none, errW_some] <;> rfl) | (simp [*, errW_none, errW_some] <;> rfl), by repeat (first | (with_reducible first | exact HB.out | apply sLA | apply sLN | apply sLD | refine sLS ?_ GE101.out) | exact HB.out)⟩
           ·rw [if_neg c52] at H
            exact absurd H (by simp)
          ·rw [if_neg c51] at H
           exact absurd H (by simp)

end Go.Proofs.Ytlmokpmdodoihaa.P

namespace Go.Proofs.Ytlmokpmdodoihaa.P
open Go.RowKit Go.Proofs.YtlmokpmdodoihaaW.PrintWords Go.Proofs.YtlmokpmdodoihaaW.PrintLast Go.Proofs.YtlmokpmdodoihaaW.PrintMore
attribute [local go_sem] max2_int min2_int max_two min_two max_three min_three max_four min_four
set_option linter.unusedVariables false
set_option linter.unusedSimpArgs false

/-! ### spec_BothOpen: function 15 -/
def spec_BothOpen.f (k : Nat) (a0_0 : Int) (a0_1 : Int) (a0_2 : Int) (a0_3 : Int) (a0_4 : Int) (a0_5 : Int) (a0_6 : Int) (a0_7 : Int) (l0_8 : List (S44)) (l0_9 : List (S44)) (l0_10 : List (S44)) : Option (Bool × Bool) := (spec_GoodGreet.f k a0_0 a0_1 a0_2 a0_3 a0_4 a0_5 a0_6 a0_7 l0_8 l0_9 l0_10).bind fun t102 => (if t102 = true then (if a0_0 = 2 then (if a0_1 = 2 then (if a0_2 = a0_4 then (some ((a0_3 == a0_5), true)) else (some (false, true))) else (some (false, true))) else (some (false, true))) else (some (false, false)))
theorem spec_BothOpen.mono : ∀ a0 a1 a2 a3 a4 a5 a6 a7 a8 a9 a10 k, LeO (spec_BothOpen.f k a0 a1 a2 a3 a4 a5 a6 a7 a8 a9 a10) (spec_BothOpen.f (k + 1) a0 a1 a2 a3 a4 a5 a6 a7 a8 a9 a10) := by
  intro a0 a1 a2 a3 a4 a5 a6 a7 a8 a9 a10 k
  unfold spec_BothOpen.f
  repeat' first
      | (with_reducible exact spec_GoodGreet.mono _ _ _ _ _ _ _ _ _ _ _ _)
      | (with_reducible exact LeO.refl _)
      | (with_reducible exact LeO.none _)
      | (with_reducible refine LeO.ite ?_ ?_)
      | (with_reducible refine LeO.bind ?_ (fun _ => ?_))
      | exact spec_GoodGreet.mono _ _ _ _ _ _ _ _ _ _ _ _
      | exact LeO.none _
      | refine LeO.ite ?_ ?_
      | refine LeO.bind ?_ (fun _ => ?_)
set_option maxHeartbeats 8000000 in
set_option maxRecDepth 100000 in
theorem spec_BothOpen.calls (k : Nat) (a0_0 : Int) (a0_1 : Int) (a0_2 : Int) (a0_3 : Int) (a0_4 : Int) (a0_5 : Int) (a0_6 : Int) (a0_7 : Int) (A0_8 : Option Addr) (c0_8 : Nat) (l0_8 : List (S44)) (A0_9 : Option Addr) (c0_9 : Nat) (l0_9 : List (S44)) (A0_10 : Option Addr) (c0_10 : Nat) (l0_10 : List (S44)) (r1 : Bool) (r2 : Bool) (w : World) (hr0_8 : Kd.C k44 w A0_8 l0_8.length l0_8) (hc0_8 : l0_8.length ≤ c0_8) (hr0_9 : Kd.C k44 w A0_9 l0_9.length l0_9) (hc0_9 : l0_9.length ≤ c0_9) (hr0_10 : Kd.C k44 w A0_10 l0_10.length l0_10) (hc0_10 : l0_10.length ≤ c0_10) (h : spec_BothOpen.f k a0_0 a0_1 a0_2 a0_3 a0_4 a0_5 a0_6 a0_7 l0_8 l0_9 l0_10 = some (r1, r2)) :
  Calls Try.prog 15 #[.agg #[.int .i64 a0_0, .int .i64 a0_1, .int .i64 a0_2, .int .i64 a0_3, .int .i64 a0_4, .int .i64 a0_5, .int .i64 a0_6, .int .i64 a0_7, .slice A0_8 l0_8.length c0_8, .slice A0_9 l0_9.length c0_9, .slice A0_10 l0_10.length c0_10]] w fun e w' => e = .returned (.tuple #[.bool r1, .bool r2]) ∧ Below w.heap.size w w' := by
 have hu24 := Try.underlying24
 have HR0_8 := sA hr0_8
 have HC0_8 := sA hc0_8
 clear hr0_8 hc0_8
 have HR0_9 := sA hr0_9
 have HC0_9 := sA hc0_9
 clear hr0_9 hc0_9
 have HR0_10 := sA hr0_10
 have HC0_10 := sA hc0_10
 clear hr0_10 hc0_10
 have HB := sA (Below.refl w.heap.size w)
 have H : ((spec_GoodGreet.f k a0_0 a0_1 a0_2 a0_3 a0_4 a0_5 a0_6 a0_7 l0_8 l0_9 l0_10).bind fun t102 => (if t102 = true then (if a0_0 = 2 then (if a0_1 = 2 then (if a0_2 = a0_4 then (some ((a0_3 == a0_5), true)) else (some (false, true))) else (some (false, true))) else (some (false, true))) else (some (false, false)))) = some (r1, r2) := h
 clear h
 replace H := Option.bind_eq_some_iff.mp H
 obtain ⟨t102, A20, H⟩ := H
 replace H : (if t102 = true then (if a0_0 = 2 then (if a0_1 = 2 then (if a0_2 = a0_4 then (some ((a0_3 == a0_5), true)) else (some (false, true))) else (some (false, true))) else (some (false, true))) else (some (false, false))) = some (r1, r2) := H
 have A2 := sA A20
 clear A20
 by_cases c3 : t102 = true
 ·subst c3
  have H1 : (if a0_0 = 2 then (if a0_1 = 2 then (if a0_2 = a0_4 then (some ((a0_3 == a0_5), true)) else (some (false, true))) else (some (false, true))) else (some (false, true))) = some (r1, r2) := by rw [if_pos rfl] at H; exact H
  clear H
  have H := H1
  clear H1
  by_cases c4 : a0_0 = 2
  ·rw [if_pos c4] at H
   have c4b0 : (a0_0 == 2) = true := beq_iff_eq.mpr c4
   have c4b1 : (a0_0 != 2) = false := bne_eq_false_iff_eq.mpr c4
   clear c4
   by_cases c5 : a0_1 = 2
   ·rw [if_pos c5] at H
    have c5b0 : (a0_1 == 2) = true := beq_iff_eq.mpr c5
    have c5b1 : (a0_1 != 2) = false := bne_eq_false_iff_eq.mpr c5
    clear c5
    by_cases c6 : a0_2 = a0_4
    ·rw [if_pos c6] at H
     have c6b0 : (a0_2 == a0_4) = true := beq_iff_eq.mpr c6
     have c6b1 : (a0_2 != a0_4) = false := bne_eq_false_iff_eq.mpr c6
     clear c6
     simp only [Option.some.injEq, Prod.mk.injEq] at H
     obtain ⟨rfl, rfl⟩ := H
     go_enter Try.func15, Try.ntmps15
     go_wp2_with (first | ((with_reducible refine gate_dst (N := 1) rfl ?_); refine box_event ?hg (N := 1) ?hd (cs := #[.int .i64 a0_0, .int .i64 a0_1, .int .i64 a0_2, .int .i64 a0_3, .int .i64 a0_4, .int .i64 a0_5, .int .i64 a0_6, .int .i64 a0_7, .slice A0_8 l0_8.length c0_8, .slice A0_9 l0_9.length c0_9, .slice A0_10 l0_10.length c0_10]) (t := 24) ?hr ?_; (case hd => rfl); (case hg => rfl); (case hr => first | (go_simp; done) | (go_simp; rfl)); intro gb101 hg w7 hbox hb; have n0_ := sA (below_step (by repeat (first | (with_reducible first | exact HB.out | apply sLA | apply sLN | apply sLD) | exact HB.out)) hb); have n1_ := sA (hbox); have n2_ := sA ((by rw [hg]; exact (below_size (by repeat (first | (with_reducible first | exact HB.out | apply sLA | apply sLN | apply sLD) | exact HB.out))) : w.heap.size ≤ gb101)); have n3_ := sA ((by rw [hg]; exact (below_size (by repeat (first | (with_reducible first | exact HB.out | apply sLA | apply sLN | apply sLD) | exact HB.out))) : w.heap.size ≤ gb101)); clear HB; have HB := n0_; have BK101 := n1_; have GW101 := n2_; have GE101 := n3_; clear n0_ n1_ n2_ n3_; clear hb hbox hg; have hcz8_0 : w7.cell? ⟨gb101, 0, none⟩ = some (.int .i64 a0_0) := sC BK101 0 rfl; have hcz8_1 : w7.cell? ⟨gb101, 1, none⟩ = some (.int .i64 a0_1) := sC BK101 1 rfl; have hcz8_2 : w7.cell? ⟨gb101, 2, none⟩ = some (.int .i64 a0_2) := sC BK101 2 rfl; have hcz8_3 : w7.cell? ⟨gb101, 3, none⟩ = some (.int .i64 a0_3) := sC BK101 3 rfl; have hcz8_4 : w7.cell? ⟨gb101, 4, none⟩ = some (.int .i64 a0_4) := sC BK101 4 rfl; have hcz8_5 : w7.cell? ⟨gb101, 5, none⟩ = some (.int .i64 a0_5) := sC BK101 5 rfl; have hcz8_6 : w7.cell? ⟨gb101, 6, none⟩ = some (.int .i64 a0_6) := sC BK101 6 rfl; have hcz8_7 : w7.cell? ⟨gb101, 7, none⟩ = some (.int .i64 a0_7) := sC BK101 7 rfl; have hcz8_8 : w7.cell? ⟨gb101, 8, none⟩ = some (.slice A0_8 l0_8.length c0_8) := sC BK101 8 rfl; have hcz8_9 : w7.cell? ⟨gb101, 9, none⟩ = some (.slice A0_9 l0_9.length c0_9) := sC BK101 9 rfl; have hcz8_10 : w7.cell? ⟨gb101, 10, none⟩ = some (.slice A0_10 l0_10.length c0_10) := sC BK101 10 rfl; have hfz8_0 := blk_frozen BK101.out 0; have hfz8_1 := blk_frozen BK101.out 1; have hfz8_2 := blk_frozen BK101.out 2; have hfz8_3 := blk_frozen BK101.out 3; have hfz8_4 := blk_frozen BK101.out 4; have hfz8_5 := blk_frozen BK101.out 5; have hfz8_6 := blk_frozen BK101.out 6; have hfz8_7 := blk_frozen BK101.out 7; have hfz8_8 := blk_frozen BK101.out 8; have hfz8_9 := blk_frozen BK101.out 9; have hfz8_10 := blk_frozen BK101.out 10) | ((with_reducible refine gate_callee (f := 12) rfl ?_); refine goesL_ (some 5) rfl rfl Try.func12 (by kernel_rfl) rfl #[.agg #[.int .i64 a0_0, .int .i64 a0_1, .int .i64 a0_2, .int .i64 a0_3, .int .i64 a0_4, .int .i64 a0_5, .int .i64 a0_6, .int .i64 a0_7, .slice A0_8 l0_8.length c0_8, .slice A0_9 l0_9.length c0_9, .slice A0_10 l0_10.length c0_10]] rfl (by (try simp only [List.map_toArray, List.map_cons, List.map_nil]); first | done | rfl | (simp only [List.length_drop, List.length_take]; rfl)) ?_; (with_reducible refine (spec_GoodGreet.calls k a0_0 a0_1 a0_2 a0_3 a0_4 a0_5 a0_6 a0_7 _ _ l0_8 _ _ l0_9 _ _ l0_10 true _ ?side1 ?side2 ?side3 ?side4 ?side5 ?side6 A2.out).mono ?_); (case side1 => repeat (first | exact (Kd.C_below HR0_8.out HB.out) | (with_reducible refine Kd.C_alloc ?_ _) | (with_reducible refine Kd.C_drewN ?_ _) | (with_reducible refine Kd.C_drew ?_))); (case side2 => exact HC0_8.out); (case side3 => repeat (first | exact (Kd.C_below HR0_9.out HB.out) | (with_reducible refine Kd.C_alloc ?_ _) | (with_reducible refine Kd.C_drewN ?_ _) | (with_reducible refine Kd.C_drew ?_))); (case side4 => exact HC0_9.out); (case side5 => repeat (first | exact (Kd.C_below HR0_10.out HB.out) | (with_reducible refine Kd.C_alloc ?_ _) | (with_reducible refine Kd.C_drewN ?_ _) | (with_reducible refine Kd.C_drew ?_))); (case side6 => exact HC0_10.out); rintro e w9 ⟨rfl, hb⟩; refine ⟨_, rfl, ?_⟩; have n0_ := sA (blk_below (sB BK101.out) hb); have n1_ := sA (below_step (by repeat (first | (with_reducible first | exact HB.out | apply sLA | apply sLN | apply sLD | refine sLS ?_ GE101.out) | exact HB.out)) hb); clear BK101; clear HB; have BK101 := n0_; have HB := n1_; clear n0_ n1_; (try clear hb); (try clear hb2); (try clear hk); (try clear hi); have hcz10_0 : w9.cell? ⟨gb101, 0, none⟩ = some (.int .i64 a0_0) := sC BK101 0 rfl; have hcz10_1 : w9.cell? ⟨gb101, 1, none⟩ = some (.int .i64 a0_1) := sC BK101 1 rfl; have hcz10_2 : w9.cell? ⟨gb101, 2, none⟩ = some (.int .i64 a0_2) := sC BK101 2 rfl; have hcz10_3 : w9.cell? ⟨gb101, 3, none⟩ = some (.int .i64 a0_3) := sC BK101 3 rfl; have hcz10_4 : w9.cell? ⟨gb101, 4, none⟩ = some (.int .i64 a0_4) := sC BK101 4 rfl; have hcz10_5 : w9.cell? ⟨gb101, 5, none⟩ = some (.int .i64 a0_5) := sC BK101 5 rfl; have hcz10_6 : w9.cell? ⟨gb101, 6, none⟩ = some (.int .i64 a0_6) := sC BK101 6 rfl; have hcz10_7 : w9.cell? ⟨gb101, 7, none⟩ = some (.int .i64 a0_7) := sC BK101 7 rfl; have hcz10_8 : w9.cell? ⟨gb101, 8, none⟩ = some (.slice A0_8 l0_8.length c0_8) := sC BK101 8 rfl; have hcz10_9 : w9.cell? ⟨gb101, 9, none⟩ = some (.slice A0_9 l0_9.length c0_9) := sC BK101 9 rfl; have hcz10_10 : w9.cell? ⟨gb101, 10, none⟩ = some (.slice A0_10 l0_10.length c0_10) := sC BK101 10 rfl; have hfz10_0 := blk_frozen BK101.out 0; have hfz10_1 := blk_frozen BK101.out 1; have hfz10_2 := blk_frozen BK101.out 2; have hfz10_3 := blk_frozen BK101.out 3; have hfz10_4 := blk_frozen BK101.out 4; have hfz10_5 := blk_frozen BK101.out 5; have hfz10_6 := blk_frozen BK101.out 6; have hfz10_7 := blk_frozen BK101.out 7; have hfz10_8 := blk_frozen BK101.out 8; have hfz10_9 := blk_frozen BK101.out 9; have hfz10_10 := blk_frozen BK101.out 10))
     go_ret2
     exact ⟨by first | rfl | (simp [errW_none, errW_some] <;> rfl) | (simp [*, errW_none, errW_some] <;> rfl), by repeat (first | (with_reducible first | exact HB.out | apply sLA | apply sLN | apply sLD | refine sLS ?_ GE101.out) | exact HB.out)⟩
    ·rw [if_neg c6] at H
     have c6b0 : (a0_2 == a0_4) = false := beq_eq_false_iff_ne.mpr c6
     have c6b1 : (a0_2 != a0_4) = true := bne_iff_ne.mpr c6
     simp only [Option.some.injEq, Prod.mk.injEq] at H
     obtain ⟨rfl, rfl⟩ := H
     go_enter Try.func15, Try.ntmps15
     go_wp2_with (first | ((with_reducible refine gate_dst (N := 1) rfl ?_); refine box_event ?hg (N := 1) ?hd (cs := #[.int .i64 a0_0, .int .i64 a0_1, .int .i64 a0_2, .int .i64 a0_3, .int .i64 a0_4, .int .i64 a0_5, .int .i64 a0_6, .int .i64 a0_7, .slice A0_8 l0_8.length c0_8, .slice A0_9 l0_9.length c0_9, .slice A0_10 l0_10.length c0_10]) (t := 24) ?hr ?_; (case hd => rfl); (case hg => rfl); (case hr => first | (go_simp; done) | (go_simp; rfl)); intro gb101 hg w11 hbox hb; have n0_ := sA (below_step (by repeat (first | (with_reducible first | exact HB.out | apply sLA | apply sLN | apply sLD) | exact HB.out)) hb); have n1_ := sA (hbox); have n2_ := sA ((by rw [hg]; exact (below_size (by repeat (first | (with_reducible first | exact HB.out | apply sLA | apply sLN | apply sLD) | exact HB.out))) : w.heap.size ≤ gb101)); have n3_ := sA ((by rw [hg]; exact (below_size (by repeat (first | (with_reducible first | exact HB.out | apply sLA | apply sLN | apply sLD) | exact HB.out))) : w.heap.size ≤ gb101)); clear HB; have HB := n0_; have BK101 := n1_; have GW101 := n2_; have GE101 := n3_; clear n0_ n1_ n2_ n3_; clear hb hbox hg; have hcz12_0 : w11.cell? ⟨gb101, 0, none⟩ = some (.int .i64 a0_0) := sC BK101 0 rfl; have hcz12_1 : w11.cell? ⟨gb101, 1, none⟩ = some (.int .i64 a0_1) := sC BK101 1 rfl; have hcz12_2 : w11.cell? ⟨gb101, 2, none⟩ = some (.int .i64 a0_2) := sC BK101 2 rfl; have hcz12_3 : w11.cell? ⟨gb101, 3, none⟩ = some (.int .i64 a0_3) := sC BK101 3 rfl; have hcz12_4 : w11.cell? ⟨gb101, 4, none⟩ = some (.int .i64 a0_4) := sC BK101 4 rfl; have hcz12_5 : w11.cell? ⟨gb101, 5, none⟩ = some (.int .i64 a0_5) := sC BK101 5 rfl; have hcz12_6 : w11.cell? ⟨gb101, 6, none⟩ = some (.int .i64 a0_6) := sC BK101 6 rfl; have hcz12_7 : w11.cell? ⟨gb101, 7, none⟩ = some (.int .i64 a0_7) := sC BK101 7 rfl; have hcz12_8 : w11.cell? ⟨gb101, 8, none⟩ = some (.slice A0_8 l0_8.length c0_8) := sC BK101 8 rfl; have hcz12_9 : w11.cell? ⟨gb101, 9, none⟩ = some (.slice A0_9 l0_9.length c0_9) := sC BK101 9 rfl; have hcz12_10 : w11.cell? ⟨gb101, 10, none⟩ = some (.slice A0_10 l0_10.length c0_10) := sC BK101 10 rfl; have hfz12_0 := blk_frozen BK101.out 0; have hfz12_1 := blk_frozen BK101.out 1; have hfz12_2 := blk_frozen BK101.out 2; have hfz12_3 := blk_frozen BK101.out 3; have hfz12_4 := blk_frozen BK101.out 4; have hfz12_5 := blk_frozen BK101.out 5; have hfz12_6 := blk_frozen BK101.out 6; have hfz12_7 := blk_frozen BK101.out 7; have hfz12_8 := blk_frozen BK101.out 8; have hfz12_9 := blk_frozen BK101.out 9; have hfz12_10 := blk_frozen BK101.out 10) | ((with_reducible refine gate_callee (f := 12) rfl ?_); refine goesL_ (some 5) rfl rfl Try.func12 (by kernel_rfl) rfl #[.agg #[.int .i64 a0_0, .int .i64 a0_1, .int .i64 a0_2, .int .i64 a0_3, .int .i64 a0_4, .int .i64 a0_5, .int .i64 a0_6, .int .i64 a0_7, .slice A0_8 l0_8.length c0_8, .slice A0_9 l0_9.length c0_9, .slice A0_10 l0_10.length c0_10]] rfl (by (try simp only [List.map_toArray, List.map_cons, List.map_nil]); first | done | rfl | (simp only [List.length_drop, List.length_take]; rfl)) ?_; (with_reducible refine (spec_GoodGreet.calls k a0_0 a0_1 a0_2 a0_3 a0_4 a0_5 a0_6 a0_7 _ _ l0_8 _ _ l0_9 _ _ l0_10 true _ ?side1 ?side2 ?side3 ?side4 ?side5 ?side6 A2.out).mono ?_); (case side1 => repeat (first | exact (Kd.C_below HR0_8.out HB.out) | (with_reducible refine Kd.C_alloc ?_ _) | (with_reducible refine Kd.C_drewN ?_ _) | (with_reducible refine Kd.C_drew ?_))); (case side2 => exact HC0_8.out); (case side3 => repeat (first | exact (Kd.C_below HR0_9.out HB.out) | (with_reducible refine Kd.C_alloc ?_ _) | (with_reducible refine Kd.C_drewN ?_ _) | (with_reducible refine Kd.C_drew ?_))); (case side4 => exact HC0_9.out); (case side5 => repeat (first | exact (Kd.C_below HR0_10.out HB.out) | (with_reducible refine Kd.C_alloc ?_ _) | (with_reducible refine Kd.C_drewN ?_ _) | (with_reducible refine Kd.C_drew ?_))); (case side6 => exact HC0_10.out); rintro e w13 ⟨rfl, hb⟩; refine ⟨_, rfl, ?_⟩; have n0_ := sA (blk_below (sB BK101.out) hb); have n1_ := sA (below_step (by repeat (first | (with_reducible first | exact HB.out | apply sLA | apply sLN | apply sLD | refine sLS ?_ GE101.out) | exact HB.out)) hb); clear BK101; clear HB; have BK101 := n0_; have HB := n1_; clear n0_ n1_; (try clear hb); (try clear hb2); (try clear hk); (try clear hi); have hcz14_0 : w13.cell? ⟨gb101, 0, none⟩ = some (.int .i64 a0_0) := sC BK101 0 rfl; have hcz14_1 : w13.cell? ⟨gb101, 1, none⟩ = some (.int .i64 a0_1) := sC BK101 1 rfl; have hcz14_2 : w13.cell? ⟨gb101, 2, none⟩ = some (.int .i64 a0_2) := sC BK101 2 rfl; have hcz14_3 : w13.cell? ⟨gb101, 3, none⟩ = some (.int .i64 a0_3) := sC BK101 3 rfl; have hcz14_4 : w13.cell? ⟨gb101, 4, none⟩ = some (.int .i64 a0_4) := sC BK101 4 rfl; have hcz14_5 : w13.cell? ⟨gb101, 5, none⟩ = some (.int .i64 a0_5) := sC BK101 5 rfl; have hcz14_6 : w13.cell? ⟨gb101, 6, none⟩ = some (.int .i64 a0_6) := sC BK101 6 rfl; have hcz14_7 : w13.cell? ⟨gb101, 7, none⟩ = some (.int .i64 a0_7) := sC BK101 7 rfl; have hcz14_8 : w13.cell? ⟨gb101, 8, none⟩ = some (.slice A0_8 l0_8.length c0_8) := sC BK101 8 rfl; have hcz14_9 : w13.cell? ⟨gb101, 9, none⟩ = some (.slice A0_9 l0_9.length c0_9) := sC BK101 9 rfl; have hcz14_10 : w13.cell? ⟨gb101, 10, none⟩ = some (.slice A0_10 l0_10.length c0_10) := sC BK101 10 rfl; have hfz14_0 := blk_frozen BK101.out 0; have hfz14_1 := blk_frozen BK101.out 1; have hfz14_2 := blk_frozen BK101.out 2; have hfz14_3 := blk_frozen BK101.out 3; have hfz14_4 := blk_frozen BK101.out 4; have hfz14_5 := blk_frozen BK101.out 5; have hfz14_6 := blk_frozen BK101.out 6; have hfz14_7 := blk_frozen BK101.out 7; have hfz14_8 := blk_frozen BK101.out 8; have hfz14_9 := blk_frozen BK101.out 9; have hfz14_10 := blk_frozen BK101.out 10))
     go_ret2
     exact ⟨by first | rfl | (simp [errW_none, errW_some] <;> rfl) | (simp [*, errW_none, errW_some] <;> rfl), by repeat (first | (with_reducible first | exact HB.out | apply sLA | apply sLN | apply sLD | refine sLS ?_ GE101.out) | exact HB.out)⟩
   ·rw [if_neg c5] at H
    have c5b0 : (a0_1 == 2) = false := beq_eq_false_iff_ne.mpr c5
    have c5b1 : (a0_1 != 2) = true := bne_iff_ne.mpr c5
    simp only [Option.some.injEq, Prod.mk.injEq] at H
    obtain ⟨rfl, rfl⟩ := H
    go_enter Try.func15, Try.ntmps15
    go_wp2_with (first | ((with_reducible refine gate_dst (N := 1) rfl ?_); refine box_event ?hg (N := 1) ?hd (cs := #[.int .i64 a0_0, .int .i64 a0_1, .int .i64 a0_2, .int .i64 a0_3, .int .i64 a0_4, .int .i64 a0_5, .int .i64 a0_6, .int .i64 a0_7, .slice A0_8 l0_8.length c0_8, .slice A0_9 l0_9.length c0_9, .slice A0_10 l0_10.length c0_10]) (t := 24) ?hr ?_; (case hd => rfl); (case hg => rfl); (case hr => first | (go_simp; done) | (go_simp; rfl)); intro gb101 hg w15 hbox hb; have n0_ := sA (below_step (by repeat (first | (with_reducible first | exact HB.out | apply sLA | apply sLN | apply sLD) | exact HB.out)) hb); have n1_ := sA (hbox); have n2_ := sA ((by rw [hg]; exact (below_size (by repeat (first | (with_reducible first | exact HB.out | apply sLA | apply sLN | apply sLD) | exact HB.out))) : w.heap.size ≤ gb101)); have n3_ := sA ((by rw [hg]; exact (below_size (by repeat (first | (with_reducible first | exact HB.out | apply sLA | apply sLN | apply sLD) | exact HB.out))) : w.heap.size ≤ gb101)); clear HB; have HB := n0_; have BK101 := n1_; have GW101 := n2_; have GE101 := n3_; clear n0_ n1_ n2_ n3_; clear hb hbox hg; have hcz16_0 : w15.cell? ⟨gb101, 0, none⟩ = some (.int .i64 a0_0) := sC BK101 0 rfl; have hcz16_1 : w15.cell? ⟨gb101, 1, none⟩ = some (.int .i64 a0_1) := sC BK101 1 rfl; have hcz16_2 : w15.cell? ⟨gb101, 2, none⟩ = some (.int .i64 a0_2) := sC BK101 2 rfl; have hcz16_3 : w15.cell? ⟨gb101, 3, none⟩ = some (.int .i64 a0_3) := sC BK101 3 rfl; have hcz16_4 : w15.cell? ⟨gb101, 4, none⟩ = some (.int .i64 a0_4) := sC BK101 4 rfl; have hcz16_5 : w15.cell? ⟨gb101, 5, none⟩ = some (.int .i64 a0_5) := sC BK101 5 rfl; have hcz16_6 : w15.cell? ⟨gb101, 6, none⟩ = some (.int .i64 a0_6) := sC BK101 6 rfl; have hcz16_7 : w15.cell? ⟨gb101, 7, none⟩ = some (.int .i64 a0_7) := sC BK101 7 rfl; have hcz16_8 : w15.cell? ⟨gb101, 8, none⟩ = some (.slice A0_8 l0_8.length c0_8) := sC BK101 8 rfl; have hcz16_9 : w15.cell? ⟨gb101, 9, none⟩ = some (.slice A0_9 l0_9.length c0_9) := sC BK101 9 rfl; have hcz16_10 : w15.cell? ⟨gb101, 10, none⟩ = some (.slice A0_10 l0_10.length c0_10) := sC BK101 10 rfl; have hfz16_0 := blk_frozen BK101.out 0; have hfz16_1 := blk_frozen BK101.out 1; have hfz16_2 := blk_frozen BK101.out 2; have hfz16_3 := blk_frozen BK101.out 3; have hfz16_4 := blk_frozen BK101.out 4; have hfz16_5 := blk_frozen BK101.out 5; have hfz16_6 := blk_frozen BK101.out 6; have hfz16_7 := blk_frozen BK101.out 7; have hfz16_8 := blk_frozen BK101.out 8; have hfz16_9 := blk_frozen BK101.out 9; have hfz16_10 := blk_frozen BK101.out 10) | ((with_reducible refine gate_callee (f := 12) rfl ?_); refine goesL_ (some 5) rfl rfl Try.func12 (by kernel_rfl) rfl #[.agg #[.int .i64 a0_0, .int .i64 a0_1, .int .i64 a0_2, .int .i64 a0_3, .int .i64 a0_4, .int .i64 a0_5, .int .i64 a0_6, .int .i64 a0_7, .slice A0_8 l0_8.length c0_8, .slice A0_9 l0_9.length c0_9, .slice A0_10 l0_10.length c0_10]] rfl (by (try simp only [List.map_toArray, List.map_cons, List.map_nil]); first | done | rfl | (simp only [List.length_drop, List.length_take]; rfl)) ?_; (with_reducible refine (spec_GoodGreet.calls k a0_0 a0_1 a0_2 a0_3 a0_4 a0_5 a0_6 a0_7 _ _ l0_8 _ _ l0_9 _ _ l0_10 true _ ?side1 ?side2 ?side3 ?side4 ?side5 ?side6 A2.out).mono ?_); (case side1 => repeat (first | exact (Kd.C_below HR0_8.out HB.out) | (with_reducible refine Kd.C_alloc ?_ _) | (with_reducible refine Kd.C_drewN ?_ _) | (with_reducible refine Kd.C_drew ?_))); (case side2 => exact HC0_8.out); (case side3 => repeat (first | exact (Kd.C_below HR0_9.out HB.out) | (with_reducible refine Kd.C_alloc ?_ _) | (with_reducible refine Kd.C_drewN ?_ _) | (with_reducible refine Kd.C_drew ?_))); (case side4 => exact HC0_9.out); (case side5 => repeat (first | exact (Kd.C_below HR0_10.out HB.out) | (with_reducible refine Kd.C_alloc ?_ _) | (with_reducible refine Kd.C_drewN ?_ _) | (with_reducible refine Kd.C_drew ?_))); (case side6 => exact HC0_10.out); rintro e w17 ⟨rfl, hb⟩; refine ⟨_, rfl, ?_⟩; have n0_ := sA (blk_below (sB BK101.out) hb); have n1_ := sA (below_step (by repeat (first | (with_reducible first | exact HB.out | apply sLA | apply sLN | apply sLD | refine sLS ?_ GE101.out) | exact HB.out)) hb); clear BK101; clear HB; have BK101 := n0_; have HB := n1_; clear n0_ n1_; (try clear hb); (try clear hb2); (try clear hk); (try clear hi); have hcz18_0 : w17.cell? ⟨gb101, 0, none⟩ = some (.int .i64 a0_0) := sC BK101 0 rfl; have hcz18_1 : w17.cell? ⟨gb101, 1, none⟩ = some (.int .i64 a0_1) := sC BK101 1 rfl; have hcz18_2 : w17.cell? ⟨gb101, 2, none⟩ = some (.int .i64 a0_2) := sC BK101 2 rfl; have hcz18_3 : w17.cell? ⟨gb101, 3, none⟩ = some (.int .i64 a0_3) := sC BK101 3 rfl; have hcz18_4 : w17.cell? ⟨gb101, 4, none⟩ = some (.int .i64 a0_4) := sC BK101 4 rfl; have hcz18_5 : w17.cell? ⟨gb101, 5, none⟩ = some (.int .i64 a0_5) := sC BK101 5 rfl; have hcz18_6 : w17.cell? ⟨gb101, 6, none⟩ = some (.int .i64 a0_6) := sC BK101 6 rfl; have hcz18_7 : w17.cell? ⟨gb101, 7, none⟩ = some (.int .i64 a0_7) := sC BK101 7 rfl; have hcz18_8 : w17.cell? ⟨gb101, 8, none⟩ = some (.slice A0_8 l0_8.length c0_8) := sC BK101 8 rfl; have hcz18_9 : w17.cell? ⟨gb101, 9, none⟩ = some (.slice A0_9 l0_9.length c0_9) := sC BK101 9 rfl; have hcz18_10 : w17.cell? ⟨gb101, 10, none⟩ = some (.slice A0_10 l0_10.length c0_10) := sC BK101 10 rfl; have hfz18_0 := blk_frozen BK101.out 0; have hfz18_1 := blk_frozen BK101.out 1; have hfz18_2 := blk_frozen BK101.out 2; have hfz18_3 := blk_frozen BK101.out 3; have hfz18_4 := blk_frozen BK101.out 4; have hfz18_5 := blk_frozen BK101.out 5; have hfz18_6 := blk_frozen BK101.out 6; have hfz18_7 := blk_frozen BK101.out 7; have hfz18_8 := blk_frozen BK101.out 8; have hfz18_9 := blk_frozen BK101.out 9; have hfz18_10 := blk_frozen BK101.out 10))
    go_ret2
    exact ⟨by first | rfl | (simp [errW_none, errW_some] <;> rfl) | (simp [*, errW_none, errW_some] <;> rfl), by repeat (first | (with_reducible first | exact HB.out | apply sLA | apply sLN | apply sLD | refine sLS ?_ GE101.out) | exact HB.out)⟩
  ·rw [if_neg c4] at H
   have c4b0 : (a0_0 == 2) = false := beq_eq_false_iff_ne.mpr c4
   have c4b1 : (a0_0 != 2) = true := bne_iff_ne.mpr c4
   simp only [Option.some.injEq, Prod.mk.injEq] at H
   obtain ⟨rfl, rfl⟩ := H
   go_enter Try.func15, Try.ntmps15
   go_wp2_with (first | ((with_reducible refine gate_dst (N := 1) rfl ?_); refine box_event ?hg (N := 1) ?hd (cs := #[.int .i64 a0_0, .int .i64 a0_1, .int .i64 a0_2, .int .i64 a0_3, .int .i64 a0_4, .int .i64 a0_5, .int .i64 a0_6, .int .i64 a0_7, .slice A0_8 l0_8.length c0_8, .slice A0_9 l0_9.length c0_9, .slice A0_10 l0_10.length c0_10]) (t := 24) ?hr ?_; (case hd => rfl); (case hg => rfl); (case hr => first | (go_simp; done) | (go_simp; rfl)); intro gb101 hg w19 hbox hb; have n0_ := sA (below_step (by repeat (first | (with_reducible first | exact HB.out | apply sLA | apply sLN | apply sLD) | exact HB.out)) hb); have n1_ := sA (hbox); have n2_ := sA ((by rw [hg]; exact (below_size (by repeat (first | (with_reducible first | exact HB.out | apply sLA | apply sLN | apply sLD) | exact HB.out))) : w.heap.size ≤ gb101)); have n3_ := sA ((by rw [hg]; exact (below_size (by repeat (first | (with_reducible first | exact HB.out | apply sLA | apply sLN | apply sLD) | exact HB.out))) : w.heap.size ≤ gb101)); clear HB; have HB := n0_; have BK101 := n1_; have GW101 := n2_; have GE101 := n3_; clear n0_ n1_ n2_ n3_; clear hb hbox hg; have hcz20_0 : w19.cell? ⟨gb101, 0, none⟩ = some (.int .i64 a0_0) := sC BK101 0 rfl; have hcz20_1 : w19.cell? ⟨gb101, 1, none⟩ = some (.int .i64 a0_1) := sC BK101 1 rfl; have hcz20_2 : w19.cell? ⟨gb101, 2, none⟩ = some (.int .i64 a0_2) := sC BK101 2 rfl; have hcz20_3 : w19.cell? ⟨gb101, 3, none⟩ = some (.int .i64 a0_3) := sC BK101 3 rfl; have hcz20_4 : w19.cell? ⟨gb101, 4, none⟩ = some (.int .i64 a0_4) := sC BK101 4 rfl; have hcz20_5 : w19.cell? ⟨gb101, 5, none⟩ = some (.int .i64 a0_5) := sC BK101 5 rfl; have hcz20_6 : w19.cell? ⟨gb101, 6, none⟩ = some (.int .i64 a0_6) := sC BK101 6 rfl; have hcz20_7 : w19.cell? ⟨gb101, 7, none⟩ = some (.int .i64 a0_7) := sC BK101 7 rfl; have hcz20_8 : w19.cell? ⟨gb101, 8, none⟩ = some (.slice A0_8 l0_8.length c0_8) := sC BK101 8 rfl; have hcz20_9 : w19.cell? ⟨gb101, 9, none⟩ = some (.slice A0_9 l0_9.length c0_9) := sC BK101 9 rfl; have hcz20_10 : w19.cell? ⟨gb101, 10, none⟩ = some (.slice A0_10 l0_10.length c0_10) := sC BK101 10 rfl; have hfz20_0 := blk_frozen BK101.out 0; have hfz20_1 := blk_frozen BK101.out 1; have hfz20_2 := blk_frozen BK101.out 2; have hfz20_3 := blk_frozen BK101.out 3; have hfz20_4 := blk_frozen BK101.out 4; have hfz20_5 := blk_frozen BK101.out 5; have hfz20_6 := blk_frozen BK101.out 6; have hfz20_7 := blk_frozen BK101.out 7; have hfz20_8 := blk_frozen BK101.out 8; have hfz20_9 := blk_frozen BK101.out 9; have hfz20_10 := blk_frozen BK101.out 10) | ((with_reducible refine gate_callee (f := 12) rfl ?_); refine goesL_ (some 5) rfl rfl Try.func12 (by kernel_rfl) rfl #[.agg #[.int .i64 a0_0, .int .i64 a0_1, .int .i64 a0_2, .int .i64 a0_3, .int .i64 a0_4, .int .i64 a0_5, .int .i64 a0_6, .int .i64 a0_7, .slice A0_8 l0_8.length c0_8, .slice A0_9 l0_9.length c0_9, .slice A0_10 l0_10.length c0_10]] rfl (by (try simp only [List.map_toArray, List.map_cons, List.map_nil]); first | done | rfl | (simp only [List.length_drop, List.length_take]; rfl)) ?_; (with_reducible refine (spec_GoodGreet.calls k a0_0 a0_1 a0_2 a0_3 a0_4 a0_5 a0_6 a0_7 _ _ l0_8 _ _ l0_9 _ _ l0_10 true _ ?side1 ?side2 ?side3 ?side4 ?side5 ?side6 A2.out).mono ?_); (case side1 => repeat (first | exact (Kd.C_below HR0_8.out HB.out) | (with_reducible refine Kd.C_alloc ?_ _) | (with_reducible refine Kd.C_drewN ?_ _) | (with_reducible refine Kd.C_drew ?_))); (case side2 => exact HC0_8.out); (case side3 => repeat (first | exact (Kd.C_below HR0_9.out HB.out) | (with_reducible refine Kd.C_alloc ?_ _) | (with_reducible refine Kd.C_drewN ?_ _) | (with_reducible refine Kd.C_drew ?_))); (case side4 => exact HC0_9.out); (case side5 => repeat (first | exact (Kd.C_below HR0_10.out HB.out) | (with_reducible refine Kd.C_alloc ?_ _) | (with_reducible refine Kd.C_drewN ?_ _) | (with_reducible refine Kd.C_drew ?_))); (case side6 => exact HC0_10.out); rintro e w21 ⟨rfl, hb⟩; refine ⟨_, rfl, ?_⟩; have n0_ := sA (blk_below (sB BK101.out) hb); have n1_ := sA (below_step (by repeat (first | (with_reducible first | exact HB.out | apply sLA | apply sLN | apply sLD | refine sLS ?_ GE101.out) | exact HB.out)) hb); clear BK101; clear HB; have BK101 := n0_; have HB := n1_; clear n0_ n1_; (try clear hb); (try clear hb2); (try clear hk); (try clear hi); have hcz22_0 : w21.cell? ⟨gb101, 0, none⟩ = some (.int .i64 a0_0) := sC BK101 0 rfl; have hcz22_1 : w21.cell? ⟨gb101, 1, none⟩ = some (.int .i64 a0_1) := sC BK101 1 rfl; have hcz22_2 : w21.cell? ⟨gb101, 2, none⟩ = some (.int .i64 a0_2) := sC BK101 2 rfl; have hcz22_3 : w21.cell? ⟨gb101, 3, none⟩ = some (.int .i64 a0_3) := sC BK101 3 rfl; have hcz22_4 : w21.cell? ⟨gb101, 4, none⟩ = some (.int .i64 a0_4) := sC BK101 4 rfl; have hcz22_5 : w21.cell? ⟨gb101, 5, none⟩ = some (.int .i64 a0_5) := sC BK101 5 rfl; have hcz22_6 : w21.cell? ⟨gb101, 6, none⟩ = some (.int .i64 a0_6) := sC BK101 6 rfl; have hcz22_7 : w21.cell? ⟨gb101, 7, none⟩ = some (.int .i64 a0_7) := sC BK101 7 rfl; have hcz22_8 : w21.cell? ⟨gb101, 8, none⟩ = some (.slice A0_8 l0_8.length c0_8) := sC BK101 8 rfl; have hcz22_9 : w21.cell? ⟨gb101, 9, none⟩ = some (.slice A0_9 l0_9.length c0_9) := sC BK101 9 rfl; have hcz22_10 : w21.cell? ⟨gb101, 10, none⟩ = some (.slice A0_10 l0_10.length c0_10) := sC BK101 10 rfl; have hfz22_0 := blk_frozen BK101.out 0; have hfz22_1 := blk_frozen BK101.out 1; have hfz22_2 := blk_frozen BK101.out 2; have hfz22_3 := blk_frozen BK101.out 3; have hfz22_4 := blk_frozen BK101.out 4; have hfz22_5 := blk_frozen BK101.out 5; have hfz22_6 := blk_frozen BK101.out 6; have hfz22_7 := blk_frozen BK101.out 7; have hfz22_8 := blk_frozen BK101.out 8; have hfz22_9 := blk_frozen BK101.out 9; have hfz22_10 := blk_frozen BK101.out 10))
   go_ret2
   exact ⟨by first | rfl | (simp [errW_none, errW_some] <;> rfl) | (simp [*, errW_none, errW_some] <;> rfl), by repeat (first | (with_reducible first | exact HB.out | apply sLA | apply sLN | apply sLD | refine sLS ?_ GE101.out) | exact HB.out)⟩
 ·replace c3 := Bool.eq_false_iff.mpr c3
  subst c3
  have H1 : (some (false, false)) = some (r1, r2) := by rw [if_neg (show ¬ (false = true) by decide)] at H; exact H
  clear H
  have H := H1
  clear H1
  simp only [Option.some.injEq, Prod.mk.injEq] at H
  obtain ⟨rfl, rfl⟩ := H
  go_enter Try.func15, Try.ntmps15
  go_wp2_with (first | ((with_reducible refine gate_dst (N := 1) rfl ?_); refine box_event ?hg (N := 1) ?hd (cs := #[.int .i64 a0_0, .int .i64 a0_1, .int .i64 a0_2, .int .i64 a0_3, .int .i64 a0_4, .int .i64 a0_5, .int .i64 a0_6, .int .i64 a0_7, .slice A0_8 l0_8.length c0_8, .slice A0_9 l0_9.length c0_9, .slice A0_10 l0_10.length c0_10]) (t := 24) ?hr ?_; (case hd => rfl); (case hg => rfl); (case hr => first | (go_simp; done) | (go_simp; rfl)); intro gb101 hg w23 hbox hb; have n0_ := sA (below_step (by repeat (first | (with_reducible first | exact HB.out | apply sLA | apply sLN | apply sLD) | exact HB.out)) hb); have n1_ := sA (hbox); have n2_ := sA ((by rw [hg]; exact (below_size (by repeat (first | (with_reducible first | exact HB.out | apply sLA | apply sLN | apply sLD) | exact HB.out))) : w.heap.size ≤ gb101)); have n3_ := sA ((by rw [hg]; exact (below_size (by repeat (first | (with_reducible first | exact HB.out | apply sLA | apply sLN | apply sLD) | exact HB.out))) : w.heap.size ≤ gb101)); clear HB; have HB := n0_; have BK101 := n1_; have GW101 := n2_; have GE101 := n3_; clear n0_ n1_ n2_ n3_; clear hb hbox hg; have hcz24_0 : w23.cell? ⟨gb101, 0, none⟩ = some (.int .i64 a0_0) := sC BK101 0 rfl; have hcz24_1 : w23.cell? ⟨gb101, 1, none⟩ = some (.int .i64 a0_1) := sC BK101 1 rfl; have hcz24_2 : w23.cell? ⟨gb101, 2, none⟩ = some (.int .i64 a0_2) := sC BK101 2 rfl; have hcz24_3 : w23.cell? ⟨gb101, 3, none⟩ = some (.int .i64 a0_3) := sC BK101 3 rfl; have hcz24_4 : w23.cell? ⟨gb101, 4, none⟩ = some (.int .i64 a0_4) := sC BK101 4 rfl; have hcz24_5 : w23.cell? ⟨gb101, 5, none⟩ = some (.int .i64 a0_5) := sC BK101 5 rfl; have hcz24_6 : w23.cell? ⟨gb101, 6, none⟩ = some (.int .i64 a0_6) := sC BK101 6 rfl; have hcz24_7 : w23.cell? ⟨gb101, 7, none⟩ = some (.int .i64 a0_7) := sC BK101 7 rfl; have hcz24_8 : w23.cell? ⟨gb101, 8, none⟩ = some (.slice A0_8 l0_8.length c0_8) := sC BK101 8 rfl; have hcz24_9 : w23.cell? ⟨gb101, 9, none⟩ = some (.slice A0_9 l0_9.length c0_9) := sC BK101 9 rfl; have hcz24_10 : w23.cell? ⟨gb101, 10, none⟩ = some (.slice A0_10 l0_10.length c0_10) := sC BK101 10 rfl; have hfz24_0 := blk_frozen BK101.out 0; have hfz24_1 := blk_frozen BK101.out 1; have hfz24_2 := blk_frozen BK101.out 2; have hfz24_3 := blk_frozen BK101.out 3; have hfz24_4 := blk_frozen BK101.out 4; have hfz24_5 := blk_frozen BK101.out 5; have hfz24_6 := blk_frozen BK101.out 6; have hfz24_7 := blk_frozen BK101.out 7; have hfz24_8 := blk_frozen BK101.out 8; have hfz24_9 := blk_frozen BK101.out 9; have hfz24_10 := blk_frozen BK101.out 10) | ((with_reducible refine gate_callee (f := 12) rfl ?_); refine goesL_ (some 5) rfl rfl Try.func12 (by kernel_rfl) rfl #[.agg #[.int .i64 a0_0, .int .i64 a0_1, .int .i64 a0_2, .int .i64 a0_3, .int .i64 a0_4, .int .i64 a0_5, .int .i64 a0_6, .int .i64 a0_7, .slice A0_8 l0_8.length c0_8, .slice A0_9 l0_9.length c0_9, .slice A0_10 l0_10.length c0_10]] rfl (by (try simp only [List.map_toArray, List.map_cons, List.map_nil]); first | done | rfl | (simp only [List.length_drop, List.length_take]; rfl)) ?_; (with_reducible refine (spec_GoodGreet.calls k a0_0 a0_1 a0_2 a0_3 a0_4 a0_5 a0_6 a0_7 _ _ l0_8 _ _ l0_9 _ _ l0_10 false _ ?side1 ?side2 ?side3 ?side4 ?side5 ?side6 A2.out).mono ?_); (case side1 => repeat (first | exact (Kd.C_below HR0_8.out HB.out) | (with_reducible refine Kd.C_alloc ?_ _) | (with_reducible refine Kd.C_drewN ?_ _) | (with_reducible refine Kd.C_drew ?_))); (case side2 => exact HC0_8.out); (case side3 => repeat (first | exact (Kd.C_below HR0_9.out HB.out) | (with_reducible refine Kd.C_alloc ?_ _) | (with_reducible refine Kd.C_drewN ?_ _) | (with_reducible refine Kd.C_drew ?_))); (case side4 => exact HC0_9.out); (case side5 => repeat (first | exact (Kd.C_below HR0_10.out HB.out) | (with_reducible refine Kd.C_alloc ?_ _) | (with_reducible refine Kd.C_drewN ?_ _) | (with_reducible refine Kd.C_drew ?_))); (case side6 => exact HC0_10.out); rintro e w25 ⟨rfl, hb⟩; refine ⟨_, rfl, ?_⟩; have n0_ := sA (blk_below (sB BK101.out) hb); have n1_ := sA (below_step (by repeat (first | (with_reducible first | exact HB.out | apply sLA | apply sLN | apply sLD | refine sLS ?_ GE101.out) | exact HB.out)) hb); clear BK101; clear HB; have BK101 := n0_; have HB := n1_; clear n0_ n1_; (try clear hb); (try clear hb2); (try clear hk); (try clear hi)))
  go_ret2
  exact ⟨by first | rfl | (simp [errW_none, errW_some] <;> rfl) | (simp [*, errW_none, errW_some] <;> rfl), by repeat (first | (with_reducible first | exact HB.out | apply sLA | apply sLN | apply sLD | refine sLS ?_ GE101.out) | exact HB.out)⟩

end Go.Proofs.Ytlmokpmdodoihaa.P

namespace Go.Proofs.Ytlmokpmdodoihaa.P
open Go.RowKit Go.Proofs.YtlmokpmdodoihaaW.PrintWords Go.Proofs.YtlmokpmdodoihaaW.PrintLast Go.Proofs.YtlmokpmdodoihaaW.PrintMore
attribute [local go_sem] max2_int min2_int max_two min_two max_three min_three max_four min_four
set_option linter.unusedVariables false
set_option linter.unusedSimpArgs false

/-! ### impl_in: function 25 -/
def impl_in.f (a0 : Int) (a1 : Int) (a2 : Int) : Option (Bool) := if a0 ≥ a1 then (some (decide (a0 ≤ a2))) else (some false)
set_option maxHeartbeats 8000000 in
set_option maxRecDepth 100000 in
theorem impl_in.calls (a0 : Int) (a1 : Int) (a2 : Int) (r : Bool) (w : World) (h : impl_in.f a0 a1 a2 = some r) :
    Calls Try.prog 25 #[.int .i64 a0, .int .i64 a1, .int .i64 a2] w fun e w' => e = .returned (.bool r) ∧ Drawn0 w w' := by
  have H : (if a0 ≥ a1 then (some (decide (a0 ≤ a2))) else (some false)) = some r := h
  clear h
  by_cases c4 : a0 ≥ a1
  · rw [if_pos c4] at H
    have c4b0 : decide (a1 ≤ a0) = true := decide_eq_true c4
    clear c4
    obtain rfl := Option.some.inj H
    go_enter Try.func25, Try.ntmps25
    go_wp2
    go_ret
    exact ⟨by first | rfl | (simp; done) | (simp [*]; done), by repeat (first | exact Drawn0.refl _ | apply Drawn0.step)⟩
  · rw [if_neg c4] at H
    have c4b0 : decide (a1 ≤ a0) = false := decide_eq_false c4
    clear c4
    obtain rfl := Option.some.inj H
    go_enter Try.func25, Try.ntmps25
    go_wp2
    go_ret
    exact ⟨by first | rfl | (simp; done) | (simp [*]; done), by repeat (first | exact Drawn0.refl _ | apply Drawn0.step)⟩

end Go.Proofs.Ytlmokpmdodoihaa.P

namespace Go.Proofs.Ytlmokpmdodoihaa.P
open Go.RowKit Go.Proofs.YtlmokpmdodoihaaW.PrintWords Go.Proofs.YtlmokpmdodoihaaW.PrintLast Go.Proofs.YtlmokpmdodoihaaW.PrintMore
attribute [local go_sem] max2_int min2_int max_two min_two max_three min_three max_four min_four
set_option linter.unusedVariables false
set_option linter.unusedSimpArgs false

/-! ### impl_Hello_27: function 27 (by hand) -/
open Go.Shelf
def impl_Hello_27.grow_ren : Go.Shelf.Ren := ⟨fun | 4 => 34 | n => n, fun | 22 => 22 | 25 => 44 | 3 => 3 | 4 => 4 | 9 => 9 | 20 => 20 | 0 => 0 | n => n, fun | n => n⟩
theorem impl_Hello_27.grow : Lays8.n4 Try.prog impl_Hello_27.grow_ren := {
  mixed := by kernel_rfl
  f4 := ⟨Try.f34.name, by decide, Try.func34.trans (congrArg some (by kernel_rfl))⟩
  t0 := Try.underlying0
  a0 := Try.isAgg0
  z0 := Try.sizeOf0
  v0 := Try.zeroValue0
  t3 := Try.underlying3
  a3 := Try.isAgg3
  z3 := Try.sizeOf3
  v3 := Try.zeroValue3
  t4 := Try.underlying4
  a4 := Try.isAgg4
  z4 := Try.sizeOf4
  v4 := Try.zeroValue4
  t9 := Try.underlying9
  a9 := Try.isAgg9
  z9 := Try.sizeOf9
  v9 := Try.zeroValue9
  t20 := Try.underlying20
  a20 := Try.isAgg20
  z20 := Try.sizeOf20
  v20 := Try.zeroValue20
  t22 := Try.underlying22
  a22 := Try.isAgg22
  z22 := Try.sizeOf22
  v22 := Try.zeroValue22 }


theorem impl_Hello_27.infoE : (Try.prog.info? 44).map (fun i => (i.zero, i.size, i.bytes)) = some (some (.agg #[(.int .i64 0), (.int .i64 0), (.int .i64 0)]), k44.sz, 24) := by kernel_rfl
theorem impl_Hello_27.row_at {w : World} {A : Option Addr} {n : Nat} {xs : List (List S44)} (h : Kd.C (Kd.slice 44 k44) w A n xs) (j : Nat) (hj : j < n) : ∃ ad A0 c0, A = some ad ∧ w.cell? (ad.add j) = some (.slice A0 (xs.getD j []).length c0) ∧ (xs.getD j []).length ≤ c0 ∧ Kd.C k44 w A0 (xs.getD j []).length (xs.getD j []) := by
  obtain ⟨ad, c, e, _, hK, hc0⟩ := Kd.C_get h ([] : List S44) (j : Int) (by omega) (by omega)
  rw [Int.toNat_natCast] at hK hc0
  have hc : ∀ i u, c[i]? = some u → w.cell? (ad.add (j * 1 + i)) = some u := hc0
  obtain ⟨A0, c0, rfl, l0, g0⟩ := hK
  exact ⟨ad, A0, c0, e, by have hq := hc 0 _ rfl; rwa [Nat.mul_one, Nat.add_zero] at hq, l0, g0⟩
theorem impl_Hello_27.grow_nil (n : Nat) (w : World) (hn : n * 24 ≤ 140737488355328) :
    Calls Try.prog 34 #[.slice none 0 0, .int .i64 n] w fun e w' => ∃ v, e = .returned v ∧ Kd.R k44 44 w' w.heap.size (fun _ => True) v [] ∧ Below w.heap.size w w' := by
  rcases Nat.eq_zero_or_pos n with h0 | h0
  · subst h0
    exact (Any8.slices_Grow_room impl_Hello_27.grow none 0 0 0 w (by omega) (by omega) (by omega) (by omega)).mono fun e w' ⟨he, hw⟩ => ⟨_, he, by rw [hw]; exact Kd.R_nil _ _ _ _ _, by rw [hw]; exact Below.refl _ _⟩
  · obtain ⟨i0, hi, hzz⟩ := Option.map_eq_some_iff.1 impl_Hello_27.infoE
    simp only [Prod.mk.injEq] at hzz
    obtain ⟨hz0, hz1, hz2⟩ := hzz
    have hs : 0 < i0.size := by rw [hz1]; decide
    refine (Any8.slices_Grow_grow impl_Hello_27.grow i0 _ hi hz0 hs none 0 0 n [] w (by omega) (by omega) (by rw [hz2]; omega) (by omega) (by simp) (fun _ => rfl) (fun a h => by cases h)).mono ?_
    rintro e w' ⟨rfl, rfl⟩
    have hg := grownCap_ge w (0 + n) 0 (impl_Hello_27.grow_ren.t 25)
    have hm := grownCap_le_maxLen w (0 + n) 0 (impl_Hello_27.grow_ren.t 25) (by unfold maxLen; omega)
    refine ⟨_, rfl, ⟨fun _ _ => trivial, [], ⟨by simp, .inr ⟨w.heap.size, _, _, rfl, Nat.le_refl _, heap_alloc_new w.drew _, by simp, hm, ?_, by simp⟩⟩, Reps.none _ _⟩, below_alloc (below_drew (Below.refl _ _)) _⟩
    simp only [Array.size_append, size_zeroCells, List.size_toArray, List.length_nil]
    have e1 : ((.agg #[(.int .i64 0), (.int .i64 0), (.int .i64 0)]) : Value).cells.size = k44.sz := rfl
    rw [e1, Nat.zero_add, ← Nat.add_mul]
    congr 1
    omega
def impl_Hello_27.f (l : List (List S44)) : Option (List S44) := if l.flatten.length ≤ 1099511627776 then some l.flatten else none
theorem impl_Hello_27.fl_succ (l : List (List S44)) (k : Nat) (h : k < l.length) : (l.take (k + 1)).flatten = (l.take k).flatten ++ l.getD k [] := by
  rw [List.take_succ_eq_append_getElem h, List.flatten_append]
  simp [List.getD_eq_getElem?_getD, List.getElem?_eq_getElem h]
theorem impl_Hello_27.fl_le (l : List (List S44)) (k : Nat) : (l.take k).flatten.length ≤ l.flatten.length := by
  conv => rhs; rw [← List.take_append_drop k l, List.flatten_append, List.length_append]
  omega
set_option maxHeartbeats 1000000 in
set_option maxRecDepth 100000 in
theorem impl_Hello_27.calls (A0 : Option Addr) (c0 : Nat) (l0 : List (List S44)) (r : List S44) (w : World) (hr0 : Kd.C (Kd.slice 44 k44) w A0 l0.length l0) (hc0 : l0.length ≤ c0) (h : impl_Hello_27.f l0 = some r) :
    Calls Try.prog 27 #[.slice A0 l0.length c0] w fun e w' => ∃ v0_ : Value, e = .returned (v0_) ∧ Kd.R k44 44 w' w.heap.size (fun _ => True) v0_ r ∧ Below w.heap.size w w' := by
  unfold impl_Hello_27.f at h
  by_cases hl : l0.flatten.length ≤ 1099511627776
  · rw [if_pos hl] at h
    obtain rfl := Option.some.inj h
    have HN := Aside0.mk hr0.2.1
    have HR := Aside0.mk hr0
    have HL := Aside0.mk hl
    clear hr0 hc0 hl h
    go_enter Try.func27, Try.ntmps27
    go_wp2
    go_loopg [3, 11] l0.length (fun gg s3 s11 wr => ∃ kk : Nat, kk ≤ l0.length ∧ l0.length - kk ≤ gg ∧ s11 = .int .i64 kk ∧ s3 = .int .i64 (((l0.take kk).flatten.length : Nat) : Int) ∧ w = wr)
    case atStart => exact ⟨0, Nat.zero_le _, by omega, rfl, by simp, rfl⟩
    case round =>
      obtain ⟨kk, hkk, hg, rfl, rfl, rfl⟩ := hrel
      have hn := HN.out
      by_cases hlt : kk < l0.length
      · have hltz : (kk : Int) < (l0.length : Int) := by omega
        obtain ⟨ad, A1, c1, e, hx, hc1, hr1⟩ := impl_Hello_27.row_at HR.out kk hlt
        cases e
        have hs := congrArg List.length (impl_Hello_27.fl_succ l0 kk hlt)
        rw [List.length_append] at hs
        have hb := impl_Hello_27.fl_le l0 (kk + 1)
        have hl := HL.out
        have HS := Aside0.mk hs
        rw [hs] at hb
        clear hs hc1 hr1
        generalize (l0.take kk).flatten.length = m at hb HS ⊢
        generalize (l0.getD kk []).length = q at hb HS hx ⊢
        have hmq : m + q ≤ 1099511627776 := by omega
        clear hb hl
        have hnn : ¬ ((m : Int) + (q : Int) < 0) := by omega
        go_wp2
        go_roundg (l0.length - (kk + 1))
        case measure => omega
        case rel => exact ⟨kk + 1, by omega, by omega, by go_num, by rw [HS.out]; push_cast; rfl, rfl⟩
      · have hltz : ¬ (kk : Int) < (l0.length : Int) := by omega
        have hk : kk = l0.length := by omega
        subst hk
        rw [List.take_length]
        have HG := Aside0.mk (impl_Hello_27.grow_nil l0.flatten.length w (by have := HL.out; omega))
        generalize l0.flatten.length = T at HG ⊢
        go_wp2_with (go_at_call 34; (with_reducible refine HG.out.mono ?_); rintro e w' ⟨v, rfl, ho, hb⟩; have HO := Aside0.mk ho; have HB := Aside0.mk hb; clear ho hb)
        go_loopg [6, 27] l0.length (fun gg s6 s27 wr => ∃ (kk : Nat) (v : Value), kk ≤ l0.length ∧ l0.length - kk ≤ gg ∧ s27 = .int .i64 kk ∧ s6 = v ∧ Aside0 (Kd.R k44 44 wr w.heap.size (fun _ => True) v (l0.take kk).flatten) ∧ Aside0 (Below w.heap.size w wr))
        case atStart => exact ⟨0, v, Nat.zero_le _, by omega, rfl, rfl, ⟨by simpa using HO.out⟩, HB⟩
        case round =>
          clear HO HB
          obtain ⟨kk, v, hkk, hg, rfl, rfl, HO, HB⟩ := hrel
          have hn := HN.out
          by_cases hlt : kk < l0.length
          · have hltz : (kk : Int) < (l0.length : Int) := by omega
            obtain ⟨ad, A1, c1, e, hx0, hc1, hr1⟩ := impl_Hello_27.row_at HR.out kk hlt
            cases e
            have hx := (HB.out.cell (World.block_lt_of_cell? w _ hx0)).trans hx0
            have HR1 := Aside0.mk (Kd.C_below hr1 HB.out)
            have HS := Aside0.mk (impl_Hello_27.fl_succ l0 kk hlt)
            have HF := Aside0.mk (impl_Hello_27.fl_le l0 (kk + 1))
            clear hx0 hc1 hr1
            generalize l0.getD kk [] = ys at hx HR1 HS
            generalize (l0.take kk).flatten = xs at HO HS
            go_wp2_with ((with_reducible refine gate_builtin (b := .append) (xs := #[.tmp 31, .tmp 32]) rfl ?_); at_builtin; refine Kd.R_append_rows k44 (w0 := w) w.heap.size rfl (.tmp 31) (.tmp 32) 22 44 (.agg #[(.int .i64 0), (.int .i64 0), (.int .i64 0)]) 24 rfl Try.underlying22 impl_Hello_27.infoE rfl (by decide) (by omega) _ xs ys _ _ _ (fun _ => True) (fun _ => False) rfl rfl HO.out HR1.out (fun _ _ h => h) (fun _ h => h.elim) (fun _ _ => trivial) HB.out HB.out.size (by have h1 := HF.out; have h2 := HL.out; rw [HS.out, List.length_append] at h1; omega) ?_; intro v2 w2 ho hb hg_ hat_; rw [← HS.out] at ho; have HO2 := Aside0.mk ho; have HB2 := Aside0.mk hb; clear ho hb hg_ hat_)
            go_roundg (l0.length - (kk + 1))
            case measure => omega
            case rel => exact ⟨kk + 1, v2, by omega, by omega, by go_num, rfl, HO2, HB2⟩
          · have hltz : ¬ (kk : Int) < (l0.length : Int) := by omega
            have hk : kk = l0.length := by omega
            subst hk
            rw [List.take_length] at HO
            go_wp2
            go_ret
            exact ⟨_, rfl, HO.out, HB.out⟩
  · rw [if_neg hl] at h
    cases h


end Go.Proofs.Ytlmokpmdodoihaa.P

namespace Go.Proofs.Ytlmokpmdodoihaa.P
open Go.RowKit Go.Proofs.YtlmokpmdodoihaaW.PrintWords Go.Proofs.YtlmokpmdodoihaaW.PrintLast Go.Proofs.YtlmokpmdodoihaaW.PrintMore
attribute [local go_sem] max2_int min2_int max_two min_two max_three min_three max_four min_four
set_option linter.unusedVariables false
set_option linter.unusedSimpArgs false

theorem in_val (a b c : Int) : impl_in.f a b c = some (decide (b ≤ a ∧ a ≤ c)) := by
  unfold impl_in.f
  by_cases h : a ≥ b
  · rw [if_pos h]
    by_cases h2 : a ≤ c
    · simp [h, h2]
    · simp [h2]
  · rw [if_neg h]
    have : ¬ b ≤ a := by omega
    simp [this]
theorem in_as {a b c : Int} {r : Bool} (h : decide (b ≤ a ∧ a ≤ c) = r) : impl_in.f a b c = some r := by rw [in_val, h]

end Go.Proofs.Ytlmokpmdodoihaa.P

namespace Go.Proofs.Ytlmokpmdodoihaa.P
open Go.RowKit Go.Proofs.YtlmokpmdodoihaaW.PrintWords Go.Proofs.YtlmokpmdodoihaaW.PrintLast Go.Proofs.YtlmokpmdodoihaaW.PrintMore
attribute [local go_sem] max2_int min2_int max_two min_two max_three min_three max_four min_four
set_option linter.unusedVariables false
set_option linter.unusedSimpArgs false

/-- Is x from lo to hi. -/
def inR (lo hi x : Int) : Bool := decide (lo ≤ x ∧ x ≤ hi)
theorem in_inR (lo hi x : Int) : impl_in.f x lo hi = some (inR lo hi x) := in_val x lo hi
theorem below_alloc_of {B : Nat} {w W : World} {n : Nat} {o : Obj} (hs : B ≤ n) (h : Below B w W) (hn : n ≤ W.heap.size := by simp) : Below B w (W.alloc o) := h.alloc (Nat.le_trans hs hn) o
/-- A call by a contract that ends in Below of its own world, seen from an elder world. -/
theorem below_calls {P : Program} {f : FuncId} {args : Array Value} (w : World) {W : World} {R : Ending → World → Prop} {Q : Ending → World → Prop} (hc : Calls P f args W fun e w' => R e w') (hb : Below w.heap.size w W)
    (h : ∀ e w', (R e w' ∧ (Below W.heap.size W w' → Below w.heap.size w w')) → Q e w') : Calls P f args W Q :=
  hc.mono fun e w' hr => h e w' ⟨hr, fun hd => below_then hb hb.size hd⟩

end Go.Proofs.Ytlmokpmdodoihaa.P

namespace Go.Proofs.Ytlmokpmdodoihaa.P
open Go.RowKit Go.Proofs.YtlmokpmdodoihaaW.PrintWords Go.Proofs.YtlmokpmdodoihaaW.PrintLast Go.Proofs.YtlmokpmdodoihaaW.PrintMore
attribute [local go_sem] max2_int min2_int max_two min_two max_three min_three max_four min_four
set_option linter.unusedVariables false
set_option linter.unusedSimpArgs false

open Go.Shelf
def encXHello (x : S44) : Value := .agg #[.int .i64 x.f0, .int .i64 x.f1, .int .i64 x.f2]
/-- A closure that tells a plain predicate of such structs, in every world in which all that lay in w lies unturned. -/
def PredHello (g : Nat) (lb : Array Value) (p : S44 → Bool) (w : World) : Prop :=
  ∀ (W : World) (x : S44), Below w.heap.size w W → Calls Try.prog g (#[encXHello x] ++ lb) W fun e w' => e = .returned (.bool (p x)) ∧ Below w.heap.size w w'
def idxFHello (p : S44 → Bool) : List S44 → Int → Int
  | [], _ => -1
  | x :: l, i => if p x then i else idxFHello p l (i + 1)
theorem idxFHello_any (p : S44 → Bool) (l : List S44) : ∀ i : Int, 0 ≤ i → (decide (idxFHello p l i ≥ 0) = l.any p) := by
  induction l with
  | nil => intro i _; rfl
  | cons x l ih =>
    intro i hi
    unfold idxFHello
    cases hp : p x with
    | true => simp [hp, hi]
    | false => simp only [Bool.false_eq_true, if_false, List.any_cons, hp, Bool.false_or]; exact ih (i + 1) (by omega)
set_option maxHeartbeats 2000000 in
theorem indexFuncHello (g : Nat) (lb : Array Value) (p : S44 → Bool) (eg : ∀ args w, (callFunc g args).run Try.prog w = .ok (.enter g args) w) (A0 : Option Addr) (c0 : Nat) (l0 : List S44) (w : World)
    (hp : PredHello g lb p w) (hr0 : Kd.C k44 w A0 l0.length l0) (hc0 : l0.length ≤ c0) :
    Calls Try.prog 35 #[.slice A0 l0.length c0, .func (.func g) #[] lb] w fun e w' => e = .returned (.int .i64 (idxFHello p l0 0)) ∧ Below w.heap.size w w' := by
  have hn : l0.length ≤ 9223372036854775807 := hr0.2.1
  have HR := Aside0.mk hr0
  have HP := Aside0.mk hp
  have hu := Try.underlying44
  clear hp hr0
  go_enter Try.func35, Try.ntmps35
  go_wp2
  go_loopg [5, 8] l0.length (fun gg _ s8 wr => ∃ kk : Nat, kk ≤ l0.length ∧ l0.length - kk ≤ gg ∧ s8 = .int .i64 kk ∧ Aside0 (Below w.heap.size w wr) ∧ Aside0 (idxFHello p l0 0 = idxFHello p (l0.drop kk) kk))
  case atStart => exact ⟨0, Nat.zero_le _, by omega, rfl, ⟨Below.refl _ w⟩, ⟨by simp⟩⟩
  case round =>
    obtain ⟨kk, hkk, hg, rfl, HD, HE⟩ := hrel
    by_cases hlt : kk < l0.length
    · have hltz : (kk : Int) < (l0.length : Int) := by omega
      obtain ⟨ad, e, hx0, hx1, hx2⟩ := at_T44 HR.out (kk : Int) (by omega) hltz
      cases e
      rw [Int.toNat_natCast] at hx0 hx1 hx2
      replace hx0 := (HD.out.cell (World.block_lt_of_cell? w _ hx0)).trans hx0
      replace hx1 := (HD.out.cell (World.block_lt_of_cell? w _ hx1)).trans hx1
      replace hx2 := (HD.out.cell (World.block_lt_of_cell? w _ hx2)).trans hx2
      have hcall : Calls Try.prog g (#[encXHello (rd_T44 l0 kk)] ++ lb) wr fun e w' => e = .returned (.bool (p (rd_T44 l0 kk))) ∧ Below w.heap.size w w' := HP.out _ _ HD.out
      have hd : l0.drop kk = rd_T44 l0 kk :: l0.drop (kk + 1) := by
        rw [List.drop_eq_getElem_cons hlt]
        simp [rd_T44, List.getD_eq_getElem?_getD, List.getElem?_eq_getElem hlt]
      have HS := Aside0.mk (show idxFHello p l0 0 = if p (rd_T44 l0 kk) then (kk : Int) else idxFHello p (l0.drop (kk + 1)) ((kk : Int) + 1) by rw [HE.out, hd]; rfl)
      unfold encXHello at hcall
      clear hd HE HD
      generalize rd_T44 l0 (kk : Int) = y at hx0 hx1 hx2 hcall HS
      cases hq : p y with
      | true =>
        rw [hq] at hcall HS
        have HF := Aside0.mk hcall
        clear hcall hq
        go_wp2_with (go_at_fn g; refine HF.out.mono ?_; rintro e w' ⟨rfl, hb⟩)
        go_ret
        exact ⟨by rw [HS.out]; rfl, hb⟩
      | false =>
        rw [hq] at hcall HS
        have HF := Aside0.mk hcall
        clear hcall hq
        go_wp2_with (go_at_fn g; refine HF.out.mono ?_; rintro e w' ⟨rfl, hb⟩; have HB := Aside0.mk hb; clear hb)
        go_roundg (l0.length - (kk + 1))
        case measure => omega
        case rel => exact ⟨kk + 1, by omega, by omega, by go_num, HB, ⟨by rw [HS.out]; rfl⟩⟩
    · have hltz : ¬ (kk : Int) < (l0.length : Int) := by omega
      have hk : kk = l0.length := by omega
      go_wp2
      go_ret
      refine ⟨?_, HD.out⟩
      rw [HE.out, hk]
      simp [idxFHello]
set_option maxHeartbeats 2000000 in
theorem containsFuncHello (g : Nat) (lb : Array Value) (p : S44 → Bool) (eg : ∀ args w, (callFunc g args).run Try.prog w = .ok (.enter g args) w) (A0 : Option Addr) (c0 : Nat) (l0 : List S44) (w : World)
    (hp : PredHello g lb p w) (hr0 : Kd.C k44 w A0 l0.length l0) (hc0 : l0.length ≤ c0) :
    Calls Try.prog 28 #[.slice A0 l0.length c0, .func (.func g) #[] lb] w fun e w' => e = .returned (.bool (l0.any p)) ∧ Below w.heap.size w w' := by
  have HI := Aside0.mk (indexFuncHello g lb p eg A0 c0 l0 w hp hr0 hc0)
  have HA := Aside0.mk (idxFHello_any p l0 0 (Int.le_refl 0))
  clear hp hr0 hc0 eg
  go_enter Try.func28, Try.ntmps28
  go_wp2_with (go_at_call 35; refine HI.out.mono ?_; rintro e w' ⟨rfl, hb⟩)
  go_ret
  exact ⟨by rw [← HA.out]; rfl, hb⟩

end Go.Proofs.Ytlmokpmdodoihaa.P

namespace Go.Proofs.Ytlmokpmdodoihaa.P
open Go.RowKit Go.Proofs.YtlmokpmdodoihaaW.PrintWords Go.Proofs.YtlmokpmdodoihaaW.PrintLast Go.Proofs.YtlmokpmdodoihaaW.PrintMore
attribute [local go_sem] max2_int min2_int max_two min_two max_three min_three max_four min_four
set_option linter.unusedVariables false
set_option linter.unusedSimpArgs false

/-- A state of type 24 at block g of W; what its slices lead to came in by w0. -/
def IsS24 (A8 : Option Addr) (c8 : Nat) (A9 : Option Addr) (c9 : Nat) (A10 : Option Addr) (c10 : Nat) (w0 W : World) (g : Nat) (f0 : Int) (f1 : Int) (f2 : Int) (f3 : Int) (f4 : Int) (f5 : Int) (f6 : Int) (f7 : Int) (f8 : List (S44)) (f9 : List (S44)) (f10 : List (S44)) : Prop := W.heap[g]? = some (.cells #[.int .i64 f0, .int .i64 f1, .int .i64 f2, .int .i64 f3, .int .i64 f4, .int .i64 f5, .int .i64 f6, .int .i64 f7, .slice A8 f8.length c8, .slice A9 f9.length c9, .slice A10 f10.length c10] 24 (0, 0)) ∧ w0.heap.size ≤ g ∧ Kd.C k44 w0 A8 f8.length f8 ∧ Kd.C k44 w0 A9 f9.length f9 ∧ Kd.C k44 w0 A10 f10.length f10
variable {A8 : Option Addr} {c8 : Nat} {A9 : Option Addr} {c9 : Nat} {A10 : Option Addr} {c10 : Nat}
theorem IsS24.grown {w0 W : World} {g : Nat} {f0 : Int} {f1 : Int} {f2 : Int} {f3 : Int} {f4 : Int} {f5 : Int} {f6 : Int} {f7 : Int} {f8 : List (S44)} {f9 : List (S44)} {f10 : List (S44)} {W1 : World} {row : Option Nat} (h : IsS24 A8 c8 A9 c9 A10 c10 w0 W g f0 f1 f2 f3 f4 f5 f6 f7 f8 f9 f10) (hw : W.grownBy W1 row) (hne : some g ≠ row) : IsS24 A8 c8 A9 c9 A10 c10 w0 W1 g f0 f1 f2 f3 f4 f5 f6 f7 f8 f9 f10 := by
  obtain ⟨hb, hg, hr8, hr9, hr10⟩ := h
  exact ⟨blk_grown hb hw hne, hg, hr8, hr9, hr10⟩
theorem IsS24.own_neN {w0 W : World} {g : Nat} {f0 : Int} {f1 : Int} {f2 : Int} {f3 : Int} {f4 : Int} {f5 : Int} {f6 : Int} {f7 : Int} {f8 : List (S44)} {f9 : List (S44)} {f10 : List (S44)} {α : Type} {d : Kd α} {e : Nat} {base : Nat} {ok : Nat → Prop} {v : Value} {xs : List α} (h : IsS24 A8 c8 A9 c9 A10 c10 w0 W g f0 f1 f2 f3 f4 f5 f6 f7 f8 f9 f10) (ho : Kd.N d e W base ok v xs) (ht : e ≠ 24) : some g ≠ v.ownBlock := by
  obtain ⟨hb, hg, hr8, hr9, hr10⟩ := h
  exact Kd.N_ne ho hb ht
theorem IsS24.fresh {w0 W : World} {g : Nat} {f0 : Int} {f1 : Int} {f2 : Int} {f3 : Int} {f4 : Int} {f5 : Int} {f6 : Int} {f7 : Int} {f8 : List (S44)} {f9 : List (S44)} {f10 : List (S44)} (h : IsS24 A8 c8 A9 c9 A10 c10 w0 W g f0 f1 f2 f3 f4 f5 f6 f7 f8 f9 f10) : ∀ k, W.heap.size ≤ k → k ≠ g := by
  obtain ⟨hb, hg, hr8, hr9, hr10⟩ := h
  exact Kd.freshB hb
theorem IsS24.kept {w0 W : World} {g : Nat} {f0 : Int} {f1 : Int} {f2 : Int} {f3 : Int} {f4 : Int} {f5 : Int} {f6 : Int} {f7 : Int} {f8 : List (S44)} {f9 : List (S44)} {f10 : List (S44)} {W1 : World} {S : Nat → Prop} (h : IsS24 A8 c8 A9 c9 A10 c10 w0 W g f0 f1 f2 f3 f4 f5 f6 f7 f8 f9 f10) (hk : Kept W W1 S) (hne : ¬ S g) : IsS24 A8 c8 A9 c9 A10 c10 w0 W1 g f0 f1 f2 f3 f4 f5 f6 f7 f8 f9 f10 := by
  obtain ⟨hb, hg, hr8, hr9, hr10⟩ := h
  exact ⟨blk_kept hb hk hne, hg, hr8, hr9, hr10⟩
theorem IsS24.below {w0 W : World} {g : Nat} {f0 : Int} {f1 : Int} {f2 : Int} {f3 : Int} {f4 : Int} {f5 : Int} {f6 : Int} {f7 : Int} {f8 : List (S44)} {f9 : List (S44)} {f10 : List (S44)} {W1 : World} (h : IsS24 A8 c8 A9 c9 A10 c10 w0 W g f0 f1 f2 f3 f4 f5 f6 f7 f8 f9 f10) (hw : Below W.heap.size W W1) : IsS24 A8 c8 A9 c9 A10 c10 w0 W1 g f0 f1 f2 f3 f4 f5 f6 f7 f8 f9 f10 := h.grown (grown_of_below hw none) (by simp)
theorem IsS24.alloc {w0 W : World} {g : Nat} {f0 : Int} {f1 : Int} {f2 : Int} {f3 : Int} {f4 : Int} {f5 : Int} {f6 : Int} {f7 : Int} {f8 : List (S44)} {f9 : List (S44)} {f10 : List (S44)} (h : IsS24 A8 c8 A9 c9 A10 c10 w0 W g f0 f1 f2 f3 f4 f5 f6 f7 f8 f9 f10) (o : Obj) : IsS24 A8 c8 A9 c9 A10 c10 w0 (W.alloc o) g f0 f1 f2 f3 f4 f5 f6 f7 f8 f9 f10 := h.below (below_alloc (Below.refl _ _) o)
theorem IsS24.drewN {w0 W : World} {g : Nat} {f0 : Int} {f1 : Int} {f2 : Int} {f3 : Int} {f4 : Int} {f5 : Int} {f6 : Int} {f7 : Int} {f8 : List (S44)} {f9 : List (S44)} {f10 : List (S44)} (h : IsS24 A8 c8 A9 c9 A10 c10 w0 W g f0 f1 f2 f3 f4 f5 f6 f7 f8 f9 f10) (m : Nat) : IsS24 A8 c8 A9 c9 A10 c10 w0 (W.drewN m) g f0 f1 f2 f3 f4 f5 f6 f7 f8 f9 f10 := h
theorem IsS24.drew {w0 W : World} {g : Nat} {f0 : Int} {f1 : Int} {f2 : Int} {f3 : Int} {f4 : Int} {f5 : Int} {f6 : Int} {f7 : Int} {f8 : List (S44)} {f9 : List (S44)} {f10 : List (S44)} (h : IsS24 A8 c8 A9 c9 A10 c10 w0 W g f0 f1 f2 f3 f4 f5 f6 f7 f8 f9 f10) : IsS24 A8 c8 A9 c9 A10 c10 w0 W.drew g f0 f1 f2 f3 f4 f5 f6 f7 f8 f9 f10 := h
theorem IsS24.at_ {w0 W : World} {g : Nat} {f0 : Int} {f1 : Int} {f2 : Int} {f3 : Int} {f4 : Int} {f5 : Int} {f6 : Int} {f7 : Int} {f8 : List (S44)} {f9 : List (S44)} {f10 : List (S44)} {w' : World} {m : Nat} (hq : W.drewN m = w') (h : IsS24 A8 c8 A9 c9 A10 c10 w0 W g f0 f1 f2 f3 f4 f5 f6 f7 f8 f9 f10) : IsS24 A8 c8 A9 c9 A10 c10 w0 w' g f0 f1 f2 f3 f4 f5 f6 f7 f8 f9 f10 := by subst hq; exact IsS24.drewN h m
theorem IsS24.apart {w0 W : World} {g : Nat} {f0 : Int} {f1 : Int} {f2 : Int} {f3 : Int} {f4 : Int} {f5 : Int} {f6 : Int} {f7 : Int} {f8 : List (S44)} {f9 : List (S44)} {f10 : List (S44)} {α : Type} {d : Kd α} {e : Nat} {base : Nat} {ok : Nat → Prop} {v : Value} {xs : List α} (h : IsS24 A8 c8 A9 c9 A10 c10 w0 W g f0 f1 f2 f3 f4 f5 f6 f7 f8 f9 f10) (ho : d.R e W base ok v xs) (ht : ∀ q, q ∈ e :: d.E → q ≠ 24) : d.R e W base (fun k => ok k ∧ k ≠ g) v xs := by
  obtain ⟨hb, hg, hr8, hr9, hr10⟩ := h
  exact Kd.R_types ho hb ht
theorem IsS24.own_ne {w0 W : World} {g : Nat} {f0 : Int} {f1 : Int} {f2 : Int} {f3 : Int} {f4 : Int} {f5 : Int} {f6 : Int} {f7 : Int} {f8 : List (S44)} {f9 : List (S44)} {f10 : List (S44)} {α : Type} {d : Kd α} {e : Nat} {base : Nat} {ok : Nat → Prop} {v : Value} {xs : List α} (h : IsS24 A8 c8 A9 c9 A10 c10 w0 W g f0 f1 f2 f3 f4 f5 f6 f7 f8 f9 f10) (ho : d.R e W base ok v xs) (ht : e ≠ 24) : some g ≠ v.ownBlock := by
  obtain ⟨hb, hg, hr8, hr9, hr10⟩ := h
  exact Kd.R_ne ho hb ht
theorem IsS24.apartQ {w0 W : World} {g : Nat} {f0 : Int} {f1 : Int} {f2 : Int} {f3 : Int} {f4 : Int} {f5 : Int} {f6 : Int} {f7 : Int} {f8 : List (S44)} {f9 : List (S44)} {f10 : List (S44)} {α : Type} {d : Kd α} {e : Nat} {base : Nat} {ok : Nat → Prop} {v : Value} {xs : List α} (h : IsS24 A8 c8 A9 c9 A10 c10 w0 W g f0 f1 f2 f3 f4 f5 f6 f7 f8 f9 f10) (ho : d.Q e W base ok v xs) (ht : ∀ q, q ∈ e :: d.E → q ≠ 24) : d.Q e W base (fun k => ok k ∧ k ≠ g) v xs := by
  obtain ⟨hb, hg, hr8, hr9, hr10⟩ := h
  exact Kd.Q_types ho hb ht
theorem IsS24.own_neQ {w0 W : World} {g : Nat} {f0 : Int} {f1 : Int} {f2 : Int} {f3 : Int} {f4 : Int} {f5 : Int} {f6 : Int} {f7 : Int} {f8 : List (S44)} {f9 : List (S44)} {f10 : List (S44)} {α : Type} {d : Kd α} {e : Nat} {base : Nat} {ok : Nat → Prop} {v : Value} {xs : List α} (h : IsS24 A8 c8 A9 c9 A10 c10 w0 W g f0 f1 f2 f3 f4 f5 f6 f7 f8 f9 f10) (ho : d.Q e W base ok v xs) (ht : e ≠ 24) : some g ≠ v.ownBlock := by
  obtain ⟨hb, hg, hr8, hr9, hr10⟩ := h
  exact Kd.Q_ne ho hb ht
theorem IsS24.apartS {w0 W : World} {g : Nat} {f0 : Int} {f1 : Int} {f2 : Int} {f3 : Int} {f4 : Int} {f5 : Int} {f6 : Int} {f7 : Int} {f8 : List (S44)} {f9 : List (S44)} {f10 : List (S44)} {α : Type} {d : Kd α} {e : Nat} {base : Nat} {ok : Nat → Prop} {v : Value} {xs : List α} (h : IsS24 A8 c8 A9 c9 A10 c10 w0 W g f0 f1 f2 f3 f4 f5 f6 f7 f8 f9 f10) (ho : d.S e W base ok v xs) (ht : ∀ q, q ∈ e :: d.E → q ≠ 24) : d.S e W base (fun k => ok k ∧ k ≠ g) v xs := by
  obtain ⟨hb, hg, hr8, hr9, hr10⟩ := h
  exact Kd.S_types ho hb ht
theorem IsS24.own_neS {w0 W : World} {g : Nat} {f0 : Int} {f1 : Int} {f2 : Int} {f3 : Int} {f4 : Int} {f5 : Int} {f6 : Int} {f7 : Int} {f8 : List (S44)} {f9 : List (S44)} {f10 : List (S44)} {α : Type} {d : Kd α} {e : Nat} {base : Nat} {ok : Nat → Prop} {v : Value} {xs : List α} (h : IsS24 A8 c8 A9 c9 A10 c10 w0 W g f0 f1 f2 f3 f4 f5 f6 f7 f8 f9 f10) (ho : d.S e W base ok v xs) (ht : e ≠ 24) : some g ≠ v.ownBlock := by
  obtain ⟨hb, hg, hr8, hr9, hr10⟩ := h
  exact Kd.S_ne ho hb ht
theorem IsS24.lt {w0 W : World} {g : Nat} {f0 : Int} {f1 : Int} {f2 : Int} {f3 : Int} {f4 : Int} {f5 : Int} {f6 : Int} {f7 : Int} {f8 : List (S44)} {f9 : List (S44)} {f10 : List (S44)} (h : IsS24 A8 c8 A9 c9 A10 c10 w0 W g f0 f1 f2 f3 f4 f5 f6 f7 f8 f9 f10) : g < W.heap.size := by
  obtain ⟨hb, hg, hr8, hr9, hr10⟩ := h
  exact blk_lt hb
theorem IsS24.ge {w0 W : World} {g : Nat} {f0 : Int} {f1 : Int} {f2 : Int} {f3 : Int} {f4 : Int} {f5 : Int} {f6 : Int} {f7 : Int} {f8 : List (S44)} {f9 : List (S44)} {f10 : List (S44)} (h : IsS24 A8 c8 A9 c9 A10 c10 w0 W g f0 f1 f2 f3 f4 f5 f6 f7 f8 f9 f10) : w0.heap.size ≤ g := by
  obtain ⟨hb, hg, hr8, hr9, hr10⟩ := h
  exact hg
theorem IsS24.ne_blk {w0 W : World} {g : Nat} {f0 : Int} {f1 : Int} {f2 : Int} {f3 : Int} {f4 : Int} {f5 : Int} {f6 : Int} {f7 : Int} {f8 : List (S44)} {f9 : List (S44)} {f10 : List (S44)} {a : Nat} {cs : Array Value} {t : TypeId} {fr : Nat × Nat} (h : IsS24 A8 c8 A9 c9 A10 c10 w0 W g f0 f1 f2 f3 f4 f5 f6 f7 f8 f9 f10) (hb2 : W.heap[a]? = some (.cells cs t fr)) (ht : t ≠ 24) : g ≠ a := by
  obtain ⟨hb, hg, hr8, hr9, hr10⟩ := h
  rintro rfl
  rw [hb] at hb2
  injection hb2 with hb2
  injection hb2 with _ ht2
  exact ht ht2.symm
theorem IsS24.far {w0 W : World} {g : Nat} {f0 : Int} {f1 : Int} {f2 : Int} {f3 : Int} {f4 : Int} {f5 : Int} {f6 : Int} {f7 : Int} {f8 : List (S44)} {f9 : List (S44)} {f10 : List (S44)} {p : Addr} (h : IsS24 A8 c8 A9 c9 A10 c10 w0 W g f0 f1 f2 f3 f4 f5 f6 f7 f8 f9 f10) (hne : g ≠ p.block) (u : Value) : IsS24 A8 c8 A9 c9 A10 c10 w0 (W.setCell p u) g f0 f1 f2 f3 f4 f5 f6 f7 f8 f9 f10 := by
  obtain ⟨hb, hg, hr8, hr9, hr10⟩ := h
  exact ⟨blk_far hb hne u, hg, hr8, hr9, hr10⟩
theorem cellS24_0 {W : World} {g : Nat} {A8 : Option Addr} {c8 : Nat} {A9 : Option Addr} {c9 : Nat} {A10 : Option Addr} {c10 : Nat} {f0 : Int} {f1 : Int} {f2 : Int} {f3 : Int} {f4 : Int} {f5 : Int} {f6 : Int} {f7 : Int} {f8 : List (S44)} {f9 : List (S44)} {f10 : List (S44)} (h : W.heap[g]? = some (.cells #[.int .i64 f0, .int .i64 f1, .int .i64 f2, .int .i64 f3, .int .i64 f4, .int .i64 f5, .int .i64 f6, .int .i64 f7, .slice A8 f8.length c8, .slice A9 f9.length c9, .slice A10 f10.length c10] 24 (0, 0))) : W.cell? ⟨g, 0, none⟩ = some (.int .i64 f0) := (blk_cell h 0).trans rfl
theorem IsS24.set_0 {w0 W : World} {g : Nat} {f0 : Int} {f1 : Int} {f2 : Int} {f3 : Int} {f4 : Int} {f5 : Int} {f6 : Int} {f7 : Int} {f8 : List (S44)} {f9 : List (S44)} {f10 : List (S44)} (h : IsS24 A8 c8 A9 c9 A10 c10 w0 W g f0 f1 f2 f3 f4 f5 f6 f7 f8 f9 f10) (x : Int) : IsS24 A8 c8 A9 c9 A10 c10 w0 (W.setCell ⟨g, 0, none⟩ (.int .i64 x)) g x f1 f2 f3 f4 f5 f6 f7 f8 f9 f10 := by
  obtain ⟨hb, hg, hr8, hr9, hr10⟩ := h
  exact ⟨by simpa using blk_set hb 0 (.int .i64 x), hg, hr8, hr9, hr10⟩
theorem cellS24_1 {W : World} {g : Nat} {A8 : Option Addr} {c8 : Nat} {A9 : Option Addr} {c9 : Nat} {A10 : Option Addr} {c10 : Nat} {f0 : Int} {f1 : Int} {f2 : Int} {f3 : Int} {f4 : Int} {f5 : Int} {f6 : Int} {f7 : Int} {f8 : List (S44)} {f9 : List (S44)} {f10 : List (S44)} (h : W.heap[g]? = some (.cells #[.int .i64 f0, .int .i64 f1, .int .i64 f2, .int .i64 f3, .int .i64 f4, .int .i64 f5, .int .i64 f6, .int .i64 f7, .slice A8 f8.length c8, .slice A9 f9.length c9, .slice A10 f10.length c10] 24 (0, 0))) : W.cell? ⟨g, 1, none⟩ = some (.int .i64 f1) := (blk_cell h 1).trans rfl
theorem IsS24.set_1 {w0 W : World} {g : Nat} {f0 : Int} {f1 : Int} {f2 : Int} {f3 : Int} {f4 : Int} {f5 : Int} {f6 : Int} {f7 : Int} {f8 : List (S44)} {f9 : List (S44)} {f10 : List (S44)} (h : IsS24 A8 c8 A9 c9 A10 c10 w0 W g f0 f1 f2 f3 f4 f5 f6 f7 f8 f9 f10) (x : Int) : IsS24 A8 c8 A9 c9 A10 c10 w0 (W.setCell ⟨g, 1, none⟩ (.int .i64 x)) g f0 x f2 f3 f4 f5 f6 f7 f8 f9 f10 := by
  obtain ⟨hb, hg, hr8, hr9, hr10⟩ := h
  exact ⟨by simpa using blk_set hb 1 (.int .i64 x), hg, hr8, hr9, hr10⟩
theorem cellS24_2 {W : World} {g : Nat} {A8 : Option Addr} {c8 : Nat} {A9 : Option Addr} {c9 : Nat} {A10 : Option Addr} {c10 : Nat} {f0 : Int} {f1 : Int} {f2 : Int} {f3 : Int} {f4 : Int} {f5 : Int} {f6 : Int} {f7 : Int} {f8 : List (S44)} {f9 : List (S44)} {f10 : List (S44)} (h : W.heap[g]? = some (.cells #[.int .i64 f0, .int .i64 f1, .int .i64 f2, .int .i64 f3, .int .i64 f4, .int .i64 f5, .int .i64 f6, .int .i64 f7, .slice A8 f8.length c8, .slice A9 f9.length c9, .slice A10 f10.length c10] 24 (0, 0))) : W.cell? ⟨g, 2, none⟩ = some (.int .i64 f2) := (blk_cell h 2).trans rfl
theorem IsS24.set_2 {w0 W : World} {g : Nat} {f0 : Int} {f1 : Int} {f2 : Int} {f3 : Int} {f4 : Int} {f5 : Int} {f6 : Int} {f7 : Int} {f8 : List (S44)} {f9 : List (S44)} {f10 : List (S44)} (h : IsS24 A8 c8 A9 c9 A10 c10 w0 W g f0 f1 f2 f3 f4 f5 f6 f7 f8 f9 f10) (x : Int) : IsS24 A8 c8 A9 c9 A10 c10 w0 (W.setCell ⟨g, 2, none⟩ (.int .i64 x)) g f0 f1 x f3 f4 f5 f6 f7 f8 f9 f10 := by
  obtain ⟨hb, hg, hr8, hr9, hr10⟩ := h
  exact ⟨by simpa using blk_set hb 2 (.int .i64 x), hg, hr8, hr9, hr10⟩
theorem cellS24_3 {W : World} {g : Nat} {A8 : Option Addr} {c8 : Nat} {A9 : Option Addr} {c9 : Nat} {A10 : Option Addr} {c10 : Nat} {f0 : Int} {f1 : Int} {f2 : Int} {f3 : Int} {f4 : Int} {f5 : Int} {f6 : Int} {f7 : Int} {f8 : List (S44)} {f9 : List (S44)} {f10 : List (S44)} (h : W.heap[g]? = some (.cells #[.int .i64 f0, .int .i64 f1, .int .i64 f2, .int .i64 f3, .int .i64 f4, .int .i64 f5, .int .i64 f6, .int .i64 f7, .slice A8 f8.length c8, .slice A9 f9.length c9, .slice A10 f10.length c10] 24 (0, 0))) : W.cell? ⟨g, 3, none⟩ = some (.int .i64 f3) := (blk_cell h 3).trans rfl
theorem IsS24.set_3 {w0 W : World} {g : Nat} {f0 : Int} {f1 : Int} {f2 : Int} {f3 : Int} {f4 : Int} {f5 : Int} {f6 : Int} {f7 : Int} {f8 : List (S44)} {f9 : List (S44)} {f10 : List (S44)} (h : IsS24 A8 c8 A9 c9 A10 c10 w0 W g f0 f1 f2 f3 f4 f5 f6 f7 f8 f9 f10) (x : Int) : IsS24 A8 c8 A9 c9 A10 c10 w0 (W.setCell ⟨g, 3, none⟩ (.int .i64 x)) g f0 f1 f2 x f4 f5 f6 f7 f8 f9 f10 := by
  obtain ⟨hb, hg, hr8, hr9, hr10⟩ := h
  exact ⟨by simpa using blk_set hb 3 (.int .i64 x), hg, hr8, hr9, hr10⟩
theorem cellS24_4 {W : World} {g : Nat} {A8 : Option Addr} {c8 : Nat} {A9 : Option Addr} {c9 : Nat} {A10 : Option Addr} {c10 : Nat} {f0 : Int} {f1 : Int} {f2 : Int} {f3 : Int} {f4 : Int} {f5 : Int} {f6 : Int} {f7 : Int} {f8 : List (S44)} {f9 : List (S44)} {f10 : List (S44)} (h : W.heap[g]? = some (.cells #[.int .i64 f0, .int .i64 f1, .int .i64 f2, .int .i64 f3, .int .i64 f4, .int .i64 f5, .int .i64 f6, .int .i64 f7, .slice A8 f8.length c8, .slice A9 f9.length c9, .slice A10 f10.length c10] 24 (0, 0))) : W.cell? ⟨g, 4, none⟩ = some (.int .i64 f4) := (blk_cell h 4).trans rfl
theorem IsS24.set_4 {w0 W : World} {g : Nat} {f0 : Int} {f1 : Int} {f2 : Int} {f3 : Int} {f4 : Int} {f5 : Int} {f6 : Int} {f7 : Int} {f8 : List (S44)} {f9 : List (S44)} {f10 : List (S44)} (h : IsS24 A8 c8 A9 c9 A10 c10 w0 W g f0 f1 f2 f3 f4 f5 f6 f7 f8 f9 f10) (x : Int) : IsS24 A8 c8 A9 c9 A10 c10 w0 (W.setCell ⟨g, 4, none⟩ (.int .i64 x)) g f0 f1 f2 f3 x f5 f6 f7 f8 f9 f10 := by
  obtain ⟨hb, hg, hr8, hr9, hr10⟩ := h
  exact ⟨by simpa using blk_set hb 4 (.int .i64 x), hg, hr8, hr9, hr10⟩
theorem cellS24_5 {W : World} {g : Nat} {A8 : Option Addr} {c8 : Nat} {A9 : Option Addr} {c9 : Nat} {A10 : Option Addr} {c10 : Nat} {f0 : Int} {f1 : Int} {f2 : Int} {f3 : Int} {f4 : Int} {f5 : Int} {f6 : Int} {f7 : Int} {f8 : List (S44)} {f9 : List (S44)} {f10 : List (S44)} (h : W.heap[g]? = some (.cells #[.int .i64 f0, .int .i64 f1, .int .i64 f2, .int .i64 f3, .int .i64 f4, .int .i64 f5, .int .i64 f6, .int .i64 f7, .slice A8 f8.length c8, .slice A9 f9.length c9, .slice A10 f10.length c10] 24 (0, 0))) : W.cell? ⟨g, 5, none⟩ = some (.int .i64 f5) := (blk_cell h 5).trans rfl
theorem IsS24.set_5 {w0 W : World} {g : Nat} {f0 : Int} {f1 : Int} {f2 : Int} {f3 : Int} {f4 : Int} {f5 : Int} {f6 : Int} {f7 : Int} {f8 : List (S44)} {f9 : List (S44)} {f10 : List (S44)} (h : IsS24 A8 c8 A9 c9 A10 c10 w0 W g f0 f1 f2 f3 f4 f5 f6 f7 f8 f9 f10) (x : Int) : IsS24 A8 c8 A9 c9 A10 c10 w0 (W.setCell ⟨g, 5, none⟩ (.int .i64 x)) g f0 f1 f2 f3 f4 x f6 f7 f8 f9 f10 := by
  obtain ⟨hb, hg, hr8, hr9, hr10⟩ := h
  exact ⟨by simpa using blk_set hb 5 (.int .i64 x), hg, hr8, hr9, hr10⟩
theorem cellS24_6 {W : World} {g : Nat} {A8 : Option Addr} {c8 : Nat} {A9 : Option Addr} {c9 : Nat} {A10 : Option Addr} {c10 : Nat} {f0 : Int} {f1 : Int} {f2 : Int} {f3 : Int} {f4 : Int} {f5 : Int} {f6 : Int} {f7 : Int} {f8 : List (S44)} {f9 : List (S44)} {f10 : List (S44)} (h : W.heap[g]? = some (.cells #[.int .i64 f0, .int .i64 f1, .int .i64 f2, .int .i64 f3, .int .i64 f4, .int .i64 f5, .int .i64 f6, .int .i64 f7, .slice A8 f8.length c8, .slice A9 f9.length c9, .slice A10 f10.length c10] 24 (0, 0))) : W.cell? ⟨g, 6, none⟩ = some (.int .i64 f6) := (blk_cell h 6).trans rfl
theorem IsS24.set_6 {w0 W : World} {g : Nat} {f0 : Int} {f1 : Int} {f2 : Int} {f3 : Int} {f4 : Int} {f5 : Int} {f6 : Int} {f7 : Int} {f8 : List (S44)} {f9 : List (S44)} {f10 : List (S44)} (h : IsS24 A8 c8 A9 c9 A10 c10 w0 W g f0 f1 f2 f3 f4 f5 f6 f7 f8 f9 f10) (x : Int) : IsS24 A8 c8 A9 c9 A10 c10 w0 (W.setCell ⟨g, 6, none⟩ (.int .i64 x)) g f0 f1 f2 f3 f4 f5 x f7 f8 f9 f10 := by
  obtain ⟨hb, hg, hr8, hr9, hr10⟩ := h
  exact ⟨by simpa using blk_set hb 6 (.int .i64 x), hg, hr8, hr9, hr10⟩
theorem cellS24_7 {W : World} {g : Nat} {A8 : Option Addr} {c8 : Nat} {A9 : Option Addr} {c9 : Nat} {A10 : Option Addr} {c10 : Nat} {f0 : Int} {f1 : Int} {f2 : Int} {f3 : Int} {f4 : Int} {f5 : Int} {f6 : Int} {f7 : Int} {f8 : List (S44)} {f9 : List (S44)} {f10 : List (S44)} (h : W.heap[g]? = some (.cells #[.int .i64 f0, .int .i64 f1, .int .i64 f2, .int .i64 f3, .int .i64 f4, .int .i64 f5, .int .i64 f6, .int .i64 f7, .slice A8 f8.length c8, .slice A9 f9.length c9, .slice A10 f10.length c10] 24 (0, 0))) : W.cell? ⟨g, 7, none⟩ = some (.int .i64 f7) := (blk_cell h 7).trans rfl
theorem IsS24.set_7 {w0 W : World} {g : Nat} {f0 : Int} {f1 : Int} {f2 : Int} {f3 : Int} {f4 : Int} {f5 : Int} {f6 : Int} {f7 : Int} {f8 : List (S44)} {f9 : List (S44)} {f10 : List (S44)} (h : IsS24 A8 c8 A9 c9 A10 c10 w0 W g f0 f1 f2 f3 f4 f5 f6 f7 f8 f9 f10) (x : Int) : IsS24 A8 c8 A9 c9 A10 c10 w0 (W.setCell ⟨g, 7, none⟩ (.int .i64 x)) g f0 f1 f2 f3 f4 f5 f6 x f8 f9 f10 := by
  obtain ⟨hb, hg, hr8, hr9, hr10⟩ := h
  exact ⟨by simpa using blk_set hb 7 (.int .i64 x), hg, hr8, hr9, hr10⟩
theorem cellS24_8 {W : World} {g : Nat} {A8 : Option Addr} {c8 : Nat} {A9 : Option Addr} {c9 : Nat} {A10 : Option Addr} {c10 : Nat} {f0 : Int} {f1 : Int} {f2 : Int} {f3 : Int} {f4 : Int} {f5 : Int} {f6 : Int} {f7 : Int} {f8 : List (S44)} {f9 : List (S44)} {f10 : List (S44)} (h : W.heap[g]? = some (.cells #[.int .i64 f0, .int .i64 f1, .int .i64 f2, .int .i64 f3, .int .i64 f4, .int .i64 f5, .int .i64 f6, .int .i64 f7, .slice A8 f8.length c8, .slice A9 f9.length c9, .slice A10 f10.length c10] 24 (0, 0))) : W.cell? ⟨g, 8, none⟩ = some (.slice A8 f8.length c8) := (blk_cell h 8).trans rfl
theorem cellS24_9 {W : World} {g : Nat} {A8 : Option Addr} {c8 : Nat} {A9 : Option Addr} {c9 : Nat} {A10 : Option Addr} {c10 : Nat} {f0 : Int} {f1 : Int} {f2 : Int} {f3 : Int} {f4 : Int} {f5 : Int} {f6 : Int} {f7 : Int} {f8 : List (S44)} {f9 : List (S44)} {f10 : List (S44)} (h : W.heap[g]? = some (.cells #[.int .i64 f0, .int .i64 f1, .int .i64 f2, .int .i64 f3, .int .i64 f4, .int .i64 f5, .int .i64 f6, .int .i64 f7, .slice A8 f8.length c8, .slice A9 f9.length c9, .slice A10 f10.length c10] 24 (0, 0))) : W.cell? ⟨g, 9, none⟩ = some (.slice A9 f9.length c9) := (blk_cell h 9).trans rfl
theorem cellS24_10 {W : World} {g : Nat} {A8 : Option Addr} {c8 : Nat} {A9 : Option Addr} {c9 : Nat} {A10 : Option Addr} {c10 : Nat} {f0 : Int} {f1 : Int} {f2 : Int} {f3 : Int} {f4 : Int} {f5 : Int} {f6 : Int} {f7 : Int} {f8 : List (S44)} {f9 : List (S44)} {f10 : List (S44)} (h : W.heap[g]? = some (.cells #[.int .i64 f0, .int .i64 f1, .int .i64 f2, .int .i64 f3, .int .i64 f4, .int .i64 f5, .int .i64 f6, .int .i64 f7, .slice A8 f8.length c8, .slice A9 f9.length c9, .slice A10 f10.length c10] 24 (0, 0))) : W.cell? ⟨g, 10, none⟩ = some (.slice A10 f10.length c10) := (blk_cell h 10).trans rfl
theorem IsS24.new (w0 W : World) (A8 : Option Addr) (c8 : Nat) (A9 : Option Addr) (c9 : Nat) (A10 : Option Addr) (c10 : Nat) (f0 : Int) (f1 : Int) (f2 : Int) (f3 : Int) (f4 : Int) (f5 : Int) (f6 : Int) (f7 : Int) (f8 : List (S44)) (f9 : List (S44)) (f10 : List (S44)) (hB : Below w0.heap.size w0 W) (hr8 : Kd.C k44 w0 A8 f8.length f8) (hr9 : Kd.C k44 w0 A9 f9.length f9) (hr10 : Kd.C k44 w0 A10 f10.length f10) : IsS24 A8 c8 A9 c9 A10 c10 w0 (W.alloc (.cells #[.int .i64 f0, .int .i64 f1, .int .i64 f2, .int .i64 f3, .int .i64 f4, .int .i64 f5, .int .i64 f6, .int .i64 f7, .slice A8 f8.length c8, .slice A9 f9.length c9, .slice A10 f10.length c10] 24)) W.heap.size f0 f1 f2 f3 f4 f5 f6 f7 f8 f9 f10 := ⟨by simpa using heap_alloc_new W _, hB.size, hr8, hr9, hr10⟩

/-! ### impl_Greet_isGiven: function 26 -/
def impl_Greet_isGiven.f (s0_0 : Int) (s0_1 : Int) (s0_2 : Int) (s0_3 : Int) (s0_4 : Int) (s0_5 : Int) (s0_6 : Int) (s0_7 : Int) (s0_8 : List (S44)) (s0_9 : List (S44)) (s0_10 : List (S44)) (a1 : Int) (a2 : Int) : Option (Bool × Int × Int × Int × Int × Int × Int × Int × Int) := (impl_in.f a1 1 s0_6).bind fun t101 => (if t101 = true then ((impl_in.f a2 1 s0_7).bind fun t102 => (some (t102, s0_0, s0_1, s0_2, s0_3, s0_4, s0_5, s0_6, s0_7))) else (some (false, s0_0, s0_1, s0_2, s0_3, s0_4, s0_5, s0_6, s0_7)))
set_option maxHeartbeats 8000000 in
set_option maxRecDepth 100000 in
theorem impl_Greet_isGiven.calls (g : Nat) (s0_0 : Int) (s0_1 : Int) (s0_2 : Int) (s0_3 : Int) (s0_4 : Int) (s0_5 : Int) (s0_6 : Int) (s0_7 : Int) (s0_8 : List (S44)) (s0_9 : List (S44)) (s0_10 : List (S44)) (a1 : Int) (a2 : Int) (r1 : Bool) (r2 : Int) (r3 : Int) (r4 : Int) (r5 : Int) (r6 : Int) (r7 : Int) (r8 : Int) (r9 : Int) (w0 w : World) (hI : IsS24 A8 c8 A9 c9 A10 c10 w0 w g s0_0 s0_1 s0_2 s0_3 s0_4 s0_5 s0_6 s0_7 s0_8 s0_9 s0_10) (hB : Below w0.heap.size w0 w) (h : impl_Greet_isGiven.f s0_0 s0_1 s0_2 s0_3 s0_4 s0_5 s0_6 s0_7 s0_8 s0_9 s0_10 a1 a2 = some (r1, r2, r3, r4, r5, r6, r7, r8, r9)) :
    Calls Try.prog 26 #[.pointer (some ⟨g, 0, none⟩), .int .i64 a1, .int .i64 a2] w fun e w' => e = .returned (.bool r1) ∧ IsS24 A8 c8 A9 c9 A10 c10 w0 w' g r2 r3 r4 r5 r6 r7 r8 r9 s0_8 s0_9 s0_10 ∧ Below w0.heap.size w0 w' ∧ KeepBut w w' g none := by
  have HI0 := Aside0.mk hI
  have HK := Aside0.mk (KeepBut.refl w g none)
  have HL := Aside0.mk hB.size
  clear hI
  have HW0 := Aside0.mk hB.size
  have HB := Aside0.mk hB
  clear hB
  have H : ((impl_in.f a1 1 s0_6).bind fun t101 => (if t101 = true then ((impl_in.f a2 1 s0_7).bind fun t102 => (some (t102, s0_0, s0_1, s0_2, s0_3, s0_4, s0_5, s0_6, s0_7))) else (some (false, s0_0, s0_1, s0_2, s0_3, s0_4, s0_5, s0_6, s0_7)))) = some (r1, r2, r3, r4, r5, r6, r7, r8, r9) := h
  clear h
  replace H := Option.bind_eq_some_iff.mp H
  obtain ⟨t101, A40, H⟩ := H
  replace H : (if t101 = true then ((impl_in.f a2 1 s0_7).bind fun t102 => (some (t102, s0_0, s0_1, s0_2, s0_3, s0_4, s0_5, s0_6, s0_7))) else (some (false, s0_0, s0_1, s0_2, s0_3, s0_4, s0_5, s0_6, s0_7))) = some (r1, r2, r3, r4, r5, r6, r7, r8, r9) := H
  have A4 := Aside0.mk A40
  clear A40
  by_cases c5 : t101 = true
  · subst c5
    have H1 : ((impl_in.f a2 1 s0_7).bind fun t102 => (some (t102, s0_0, s0_1, s0_2, s0_3, s0_4, s0_5, s0_6, s0_7))) = some (r1, r2, r3, r4, r5, r6, r7, r8, r9) := by rw [if_pos rfl] at H; exact H
    clear H
    have H := H1
    clear H1
    replace H := Option.bind_eq_some_iff.mp H
    obtain ⟨t102, A60, H⟩ := H
    replace H : (some (t102, s0_0, s0_1, s0_2, s0_3, s0_4, s0_5, s0_6, s0_7)) = some (r1, r2, r3, r4, r5, r6, r7, r8, r9) := H
    have A6 := Aside0.mk A60
    clear A60
    simp only [Option.some.injEq, Prod.mk.injEq] at H
    obtain ⟨rfl, rfl, rfl, rfl, rfl, rfl, rfl, rfl, rfl⟩ := H
    obtain ⟨HGz7, hgz7, HSz7_8, HSz7_9, HSz7_10⟩ := HI0.out
    have hcz7_0 := cellS24_0 HGz7
    have hcz7_1 := cellS24_1 HGz7
    have hcz7_2 := cellS24_2 HGz7
    have hcz7_3 := cellS24_3 HGz7
    have hcz7_4 := cellS24_4 HGz7
    have hcz7_5 := cellS24_5 HGz7
    have hcz7_6 := cellS24_6 HGz7
    have hcz7_7 := cellS24_7 HGz7
    have hcz7_8 := cellS24_8 HGz7
    have hcz7_9 := cellS24_9 HGz7
    have hcz7_10 := cellS24_10 HGz7
    have hfz7_0 := blk_frozen HGz7 0
    have hfz7_1 := blk_frozen HGz7 1
    have hfz7_2 := blk_frozen HGz7 2
    have hfz7_3 := blk_frozen HGz7 3
    have hfz7_4 := blk_frozen HGz7 4
    have hfz7_5 := blk_frozen HGz7 5
    have hfz7_6 := blk_frozen HGz7 6
    have hfz7_7 := blk_frozen HGz7 7
    clear HGz7 hgz7
    go_enter Try.func26, Try.ntmps26
    go_wp2_with (first | ((with_reducible refine gate_callee (f := 25) rfl ?_); refine goesL_ (some 12) rfl rfl Try.func25 (by kernel_rfl) rfl #[.int .i64 a1, .int .i64 1, .int .i64 s0_6] rfl (by (try simp only [List.map_toArray, List.map_cons, List.map_nil]); first | done | rfl | (simp only [List.length_drop, List.length_take]; rfl)) ?_; (with_reducible refine (impl_in.calls a1 1 s0_6 true _ A4.out).mono ?_); rintro e w' ⟨rfl, ⟨nd, rfl⟩⟩; refine ⟨_, rfl, ?_⟩) | (go_at_call 25; (with_reducible refine (impl_in.calls a2 1 s0_7 t102 _ A6.out).mono ?_); rintro e w' ⟨rfl, ⟨nd, rfl⟩⟩))
    go_ret
    exact ⟨by first | rfl | (simp [errW_none, errW_some] <;> rfl) | (simp [*, errW_none, errW_some] <;> rfl), by repeat (first | (with_reducible first | exact HI0.out | apply IsS24.alloc | apply IsS24.drewN | apply IsS24.drew | apply IsS24.set_0 | apply IsS24.set_1 | apply IsS24.set_2 | apply IsS24.set_3 | apply IsS24.set_4 | apply IsS24.set_5 | apply IsS24.set_6 | apply IsS24.set_7) | exact HI0.out), by repeat (first | (with_reducible first | exact HB.out | apply below_alloc | apply pw_below_drewN | apply below_drew1 | refine below_set ?_ (IsS24.ge HI0.out)) | exact HB.out), by repeat (first | (with_reducible first | exact HK.out | apply KeepBut.set_ | apply keep_drewN | apply keep_drew | apply keep_alloc) | exact HK.out)⟩
  · replace c5 := Bool.eq_false_iff.mpr c5
    subst c5
    have H1 : (some (false, s0_0, s0_1, s0_2, s0_3, s0_4, s0_5, s0_6, s0_7)) = some (r1, r2, r3, r4, r5, r6, r7, r8, r9) := by rw [if_neg (show ¬ (false = true) by decide)] at H; exact H
    clear H
    have H := H1
    clear H1
    simp only [Option.some.injEq, Prod.mk.injEq] at H
    obtain ⟨rfl, rfl, rfl, rfl, rfl, rfl, rfl, rfl, rfl⟩ := H
    obtain ⟨HGz8, hgz8, HSz8_8, HSz8_9, HSz8_10⟩ := HI0.out
    have hcz8_0 := cellS24_0 HGz8
    have hcz8_1 := cellS24_1 HGz8
    have hcz8_2 := cellS24_2 HGz8
    have hcz8_3 := cellS24_3 HGz8
    have hcz8_4 := cellS24_4 HGz8
    have hcz8_5 := cellS24_5 HGz8
    have hcz8_6 := cellS24_6 HGz8
    have hcz8_7 := cellS24_7 HGz8
    have hcz8_8 := cellS24_8 HGz8
    have hcz8_9 := cellS24_9 HGz8
    have hcz8_10 := cellS24_10 HGz8
    have hfz8_0 := blk_frozen HGz8 0
    have hfz8_1 := blk_frozen HGz8 1
    have hfz8_2 := blk_frozen HGz8 2
    have hfz8_3 := blk_frozen HGz8 3
    have hfz8_4 := blk_frozen HGz8 4
    have hfz8_5 := blk_frozen HGz8 5
    have hfz8_6 := blk_frozen HGz8 6
    have hfz8_7 := blk_frozen HGz8 7
    clear HGz8 hgz8
    go_enter Try.func26, Try.ntmps26
    go_wp2_with (first | ((with_reducible refine gate_callee (f := 25) rfl ?_); refine goesL_ (some 12) rfl rfl Try.func25 (by kernel_rfl) rfl #[.int .i64 a1, .int .i64 1, .int .i64 s0_6] rfl (by (try simp only [List.map_toArray, List.map_cons, List.map_nil]); first | done | rfl | (simp only [List.length_drop, List.length_take]; rfl)) ?_; (with_reducible refine (impl_in.calls a1 1 s0_6 false _ A4.out).mono ?_); rintro e w' ⟨rfl, ⟨nd, rfl⟩⟩; refine ⟨_, rfl, ?_⟩))
    go_ret
    exact ⟨by first | rfl | (simp [errW_none, errW_some] <;> rfl) | (simp [*, errW_none, errW_some] <;> rfl), by repeat (first | (with_reducible first | exact HI0.out | apply IsS24.alloc | apply IsS24.drewN | apply IsS24.drew | apply IsS24.set_0 | apply IsS24.set_1 | apply IsS24.set_2 | apply IsS24.set_3 | apply IsS24.set_4 | apply IsS24.set_5 | apply IsS24.set_6 | apply IsS24.set_7) | exact HI0.out), by repeat (first | (with_reducible first | exact HB.out | apply below_alloc | apply pw_below_drewN | apply below_drew1 | refine below_set ?_ (IsS24.ge HI0.out)) | exact HB.out), by repeat (first | (with_reducible first | exact HK.out | apply KeepBut.set_ | apply keep_drewN | apply keep_drew | apply keep_alloc) | exact HK.out)⟩

end Go.Proofs.Ytlmokpmdodoihaa.P
