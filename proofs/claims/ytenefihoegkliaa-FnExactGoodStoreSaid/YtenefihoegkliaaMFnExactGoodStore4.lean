/- FnExactGoodStore: for every input that can be read, the law returns true and its arguments read as before. Conditions: none beyond the row's own. (Part 5 of 5: contracts made by pw.py with the kit's print, contracts by hand, plain laws, the row.) -/
import Derived.Test.YtenefihoegkliaaMFnExactGoodStore3
import Derived.Test.YtenefihoegkliaaWWords
import Derived.ChangeArms
import Derived.ChangeSame
import Derived.ChangeSlices
import Derived.WideShapes
import Derived.ProofKit
import Derived.KernelRfl
import Derived.Test.YtenefihoegkliaaRows
import Derived.WalkKit
import Derived.OpenShut
import Derived.ShutString
import Derived.ChangeOld
import Derived.Below
import Derived.SizedLaws
import Derived.Carry

namespace Go.Proofs.Ytenefihoegkliaa.P
open Go.RowKit Go.Proofs.YtenefihoegkliaaW.PrintWords Go.Proofs.YtenefihoegkliaaW.PrintLast Go.Proofs.YtenefihoegkliaaW.PrintMore
attribute [local go_sem] max2_int min2_int max_two min_two max_three min_three max_four min_four
set_option linter.unusedVariables false
set_option linter.unusedSimpArgs false

/-! ### laws_eqBlockS: function 51 -/
def laws_eqBlockS.l0 : Nat → List (S30) → List (S30) → Int → Option (Bool)
  | 0, _, _, _ => none
  | k + 1, x0, x1, x5 => if x5 < (x0.length : Int) then (if 0 ≤ x5 then (if x5 < (x1.length : Int) then ((laws_eqBlock.f k ((rd_T30 x0 x5).f0) ((rd_T30 x0 x5).f1) ((rd_T30 x0 x5).f2) ((rd_T30 x0 x5).f3) ((rd_T30 x1 x5).f0) ((rd_T30 x1 x5).f1) ((rd_T30 x1 x5).f2) ((rd_T30 x1 x5).f3)).bind fun t103 => (if t103 = true then (laws_eqBlockS.l0 k x0 x1 (wrap64 (x5 + 1))) else (some false))) else (none)) else (none)) else (some true)
def laws_eqBlockS.f (k : Nat) (l0 : List (S30)) (l1 : List (S30)) : Option (Bool) := if (l0.length : Int) = (l1.length : Int) then (laws_eqBlockS.l0 k l0 l1 0) else (some false)
theorem laws_eqBlockS.mono_l : ∀ k, (∀ y0 y1 y2, LeO (laws_eqBlockS.l0 k y0 y1 y2) (laws_eqBlockS.l0 (k + 1) y0 y1 y2))
  | 0 => fun _ _ _ r h => by simp [laws_eqBlockS.l0] at h
  | k + 1 => by
    have ih0 := laws_eqBlockS.mono_l k
    · intro y0 y1 y2
      unfold laws_eqBlockS.l0
      repeat' first
      | (with_reducible exact ih0 _ _ _)
      | (with_reducible exact laws_eqBlock.mono _ _ _ _ _ _ _ _ _)
      | (with_reducible exact LeO.refl _)
      | (with_reducible exact LeO.none _)
      | (with_reducible refine LeO.ite ?_ ?_)
      | (with_reducible refine LeO.bind ?_ (fun _ => ?_))
      | exact ih0 _ _ _
      | exact laws_eqBlock.mono _ _ _ _ _ _ _ _ _
      | exact LeO.none _
      | refine LeO.ite ?_ ?_
      | refine LeO.bind ?_ (fun _ => ?_)
theorem laws_eqBlockS.mono : ∀ a0 a1 k, LeO (laws_eqBlockS.f k a0 a1) (laws_eqBlockS.f (k + 1) a0 a1) := by
  intro a0 a1 k
  have ih0 := laws_eqBlockS.mono_l k
  unfold laws_eqBlockS.f
  repeat' first
      | (with_reducible exact ih0 _ _ _)
      | (with_reducible exact laws_eqBlock.mono _ _ _ _ _ _ _ _ _)
      | (with_reducible exact LeO.refl _)
      | (with_reducible exact LeO.none _)
      | (with_reducible refine LeO.ite ?_ ?_)
      | (with_reducible refine LeO.bind ?_ (fun _ => ?_))
      | exact ih0 _ _ _
      | exact laws_eqBlock.mono _ _ _ _ _ _ _ _ _
      | exact LeO.none _
      | refine LeO.ite ?_ ?_
      | refine LeO.bind ?_ (fun _ => ?_)
def laws_eqBlockS.T6 : Bool × List (List Nat × List Nat) := (true, [([], []), ([], []), ([0, 1], [0, 1]), ([2], [2]), ([], []), ([], []), ([4, 5], [4, 5]), ([6], [6]), ([3, 7], [3, 7]), ([8], [8])])
def laws_eqBlockS.B6 : List Nat := [0, 0, 3, 7, 0, 0, 48, 112, 255, 511]
theorem laws_eqBlockS.tab6 : rtab .any (opsOf Try.f51 6) = laws_eqBlockS.T6 := by kernel_rfl
theorem laws_eqBlockS.bits6 : waitsOk laws_eqBlockS.T6.2 laws_eqBlockS.B6 = true := by kernel_rfl
set_option maxHeartbeats 8000000 in
set_option maxRecDepth 100000 in
theorem laws_eqBlockS.calls (k : Nat) (A0 : Option Addr) (c0 : Nat) (l0 : List (S30)) (A1 : Option Addr) (c1 : Nat) (l1 : List (S30)) (r : Bool) (w : World) (hr0 : Kd.C k30 w A0 l0.length l0) (hc0 : l0.length ≤ c0) (hr1 : Kd.C k30 w A1 l1.length l1) (hc1 : l1.length ≤ c1) (h : laws_eqBlockS.f k l0 l1 = some r) :
  Calls Try.prog 51 #[.slice A0 l0.length c0, .slice A1 l1.length c1] w fun e w' => e = .returned (.bool r) ∧ Below w.heap.size w w' := by
 have hu30 := Try.underlying30
 have HR0 := sA hr0
 have HC0 := sA hc0
 clear hr0 hc0
 have HR1 := sA hr1
 have HC1 := sA hc1
 clear hr1 hc1
 have HB := sA (Below.refl w.heap.size w)
 have H : (if (l0.length : Int) = (l1.length : Int) then (laws_eqBlockS.l0 k l0 l1 0) else (some false)) = some r := h
 clear h
 by_cases c3 : (l0.length : Int) = (l1.length : Int)
 ·rw [if_pos c3] at H
  have c3b0 : ((l0.length : Int) == (l1.length : Int)) = true := beq_iff_eq.mpr c3
  have c3b1 : ((l0.length : Int) != (l1.length : Int)) = false := bne_eq_false_iff_eq.mpr c3
  have c3b2 : (l0.length == l1.length) = true := by first | simpa using c3 | (simp at c3 ⊢; omega)
  clear c3
  have H' := sA H
  clear H
  go_enter Try.func51, Try.ntmps51
  go_wp2
  go_loopg [5] k (fun kq v5 w' => ∃ (x5_1 : Int), v5 = .int .i64 x5_1 ∧ Aside0 (laws_eqBlockS.l0 kq l0 l1 x5_1 = some r) ∧ Aside0 (kq ≤ k) ∧ Aside0 (Below w.heap.size w w'))
  case atStart => exact ⟨(0), (by first | rfl | (simp; done) | (simp [*]; done)), H', ⟨Nat.le_refl _⟩, ⟨by repeat (first | (with_reducible first | exact HB.out | apply sLA | apply sLN | apply sLD) | exact HB.out)⟩⟩
  case round =>
   clear H'
   try clear c1
   try clear p2
   try clear c3
   try clear c3b0
   try clear c3b1
   try clear c3b2
   obtain ⟨x5_1, rfl, HA, HK1, HB⟩ := hrel
   cases gk with
   | zero => exact absurd HA.out (by simp [laws_eqBlockS.l0])
   | succ k1 =>
    have H := HA.out
    clear HA
    simp only [laws_eqBlockS.l0] at H
    by_cases c4 : x5_1 < (l0.length : Int)
    ·rw [if_pos c4] at H
     have c4b0 : decide (x5_1 < (l0.length : Int)) = true := decide_eq_true c4
     clear c4
     by_cases c5 : 0 ≤ x5_1
     ·rw [if_pos c5] at H
      have c5b0 : decide (0 ≤ x5_1) = true := decide_eq_true c5
      clear c5
      by_cases c6 : x5_1 < (l1.length : Int)
      ·rw [if_pos c6] at H
       have c6b0 : decide (x5_1 < (l1.length : Int)) = true := decide_eq_true c6
       clear c6
       replace H := Option.bind_eq_some_iff.mp H
       obtain ⟨t103, A70, H⟩ := H
       replace H : (if t103 = true then (laws_eqBlockS.l0 k1 l0 l1 (wrap64 (x5_1 + 1))) else (some false)) = some r := H
       have A7 := sA A70
       clear A70
       by_cases c8 : t103 = true
       ·subst c8
        have H1 : (laws_eqBlockS.l0 k1 l0 l1 (wrap64 (x5_1 + 1))) = some r := by rw [if_pos rfl] at H; exact H
        clear H
        have H := H1
        clear H1
        have H' := sA H
        clear H
        try go_wp2
        have n0_ := sA (below_drew1 HB.out)
        clear HB
        have HB := n0_
        clear n0_
        have p101 : 0 ≤ (x5_1 : Int) := of_decide_eq_true (by first | (with_reducible assumption) | assumption)
        have q101 : x5_1 < (l0.length : Int) := of_decide_eq_true (by first | (with_reducible assumption) | assumption)
        obtain ⟨ad101, A101_3, c101_3, e101, hx101_0, hx101_1, hx101_2, hx101_3, hl101_3, hi101_3⟩ := at_T30 HR0.out x5_1 p101 q101
        have hw101_3 := hx101_3
        have hw101_2 := hx101_2
        have hw101_1 := hx101_1
        have hw101_0 := hx101_0
        cases e101
        replace hx101_0 := (HB.out.cell (World.block_lt_of_cell? w _ hx101_0)).trans hx101_0
        replace hx101_1 := (HB.out.cell (World.block_lt_of_cell? w _ hx101_1)).trans hx101_1
        replace hx101_2 := (HB.out.cell (World.block_lt_of_cell? w _ hx101_2)).trans hx101_2
        replace hx101_3 := (HB.out.cell (World.block_lt_of_cell? w _ hx101_3)).trans hx101_3
        have HR101_3 := sA hi101_3
        have HC101_3 := sA hl101_3
        clear hi101_3 hl101_3
        replace p101 := eq_true p101
        replace q101 := eq_true q101
        have p102 : 0 ≤ (x5_1 : Int) := of_decide_eq_true (by first | (with_reducible assumption) | assumption)
        have q102 : x5_1 < (l1.length : Int) := of_decide_eq_true (by first | (with_reducible assumption) | assumption)
        obtain ⟨ad102, A102_3, c102_3, e102, hx102_0, hx102_1, hx102_2, hx102_3, hl102_3, hi102_3⟩ := at_T30 HR1.out x5_1 p102 q102
        have hw102_3 := hx102_3
        have hw102_2 := hx102_2
        have hw102_1 := hx102_1
        have hw102_0 := hx102_0
        cases e102
        replace hx102_0 := (HB.out.cell (World.block_lt_of_cell? w _ hx102_0)).trans hx102_0
        replace hx102_1 := (HB.out.cell (World.block_lt_of_cell? w _ hx102_1)).trans hx102_1
        replace hx102_2 := (HB.out.cell (World.block_lt_of_cell? w _ hx102_2)).trans hx102_2
        replace hx102_3 := (HB.out.cell (World.block_lt_of_cell? w _ hx102_3)).trans hx102_3
        have HR102_3 := sA hi102_3
        have HC102_3 := sA hl102_3
        clear hi102_3 hl102_3
        replace p102 := eq_true p102
        replace q102 := eq_true q102
        refine start_ (n := 10) (S := fun w' => w'.cell? (ad101.add ((x5_1).toNat * 4)) = some (.int .i64 ((rd_T30 l0 x5_1).f0)) ∧ w'.cell? ⟨(ad101.add ((x5_1).toNat * 4)).block, (ad101.add ((x5_1).toNat * 4)).off + 1, none⟩ = some (.int .i64 ((rd_T30 l0 x5_1).f1)) ∧ w'.cell? ⟨(ad101.add ((x5_1).toNat * 4)).block, (ad101.add ((x5_1).toNat * 4)).off + 2, none⟩ = some (.string ((rd_T30 l0 x5_1).f2)) ∧ w'.cell? ⟨(ad101.add ((x5_1).toNat * 4)).block, (ad101.add ((x5_1).toNat * 4)).off + 3, none⟩ = some (.slice A101_3 ((rd_T30 l0 x5_1).f3).length c101_3) ∧ w'.cell? (ad102.add ((x5_1).toNat * 4)) = some (.int .i64 ((rd_T30 l1 x5_1).f0)) ∧ w'.cell? ⟨(ad102.add ((x5_1).toNat * 4)).block, (ad102.add ((x5_1).toNat * 4)).off + 1, none⟩ = some (.int .i64 ((rd_T30 l1 x5_1).f1)) ∧ w'.cell? ⟨(ad102.add ((x5_1).toNat * 4)).block, (ad102.add ((x5_1).toNat * 4)).off + 2, none⟩ = some (.string ((rd_T30 l1 x5_1).f2)) ∧ w'.cell? ⟨(ad102.add ((x5_1).toNat * 4)).block, (ad102.add ((x5_1).toNat * 4)).off + 3, none⟩ = some (.slice A102_3 ((rd_T30 l1 x5_1).f3).length c102_3)) (ds := []) (sM 10 0) (by kernel_rfl) rfl rfl ⟨((HB.out.cell (World.block_lt_of_cell? w _ hw101_0)).trans hw101_0), ((HB.out.cell (World.block_lt_of_cell? w _ hw101_1)).trans hw101_1), ((HB.out.cell (World.block_lt_of_cell? w _ hw101_2)).trans hw101_2), ((HB.out.cell (World.block_lt_of_cell? w _ hw101_3)).trans hw101_3), ((HB.out.cell (World.block_lt_of_cell? w _ hw102_0)).trans hw102_0), ((HB.out.cell (World.block_lt_of_cell? w _ hw102_1)).trans hw102_1), ((HB.out.cell (World.block_lt_of_cell? w _ hw102_2)).trans hw102_2), ((HB.out.cell (World.block_lt_of_cell? w _ hw102_3)).trans hw102_3)⟩ (fun hHeld => ?_); refine with_tabW laws_eqBlockS.tab6 laws_eqBlockS.bits6 (fun HT_ HW_ => ?_)
        generalize wr.drew = w9 at HB HR101_3 HR102_3 hx101_0 hx101_1 hx101_2 hx101_3 hx102_0 hx102_1 hx102_2 hx102_3 hHeld ⊢
        refine pure_ (i := 0) (N := some 17) (v := ?_) (a' := ?_) (sM 10 1) rfl rfl (any_of HT_.out (by kernel_rfl)) (fun _ _ _ h => h) (Or.inl ⟨by rfl, ?_⟩) ?_ ?_
        rotate_left
        ·intro w'
         go_simp
         with_reducible rfl
        rotate_left
        ·simp only [Act.put, sI, sZ, sV, i64_w, i32_w]
         rfl
        refine pure_ (i := 1) (N := some 18) (v := ?_) (a' := ?_) (sM 10 3) rfl rfl (any_of HT_.out (by kernel_rfl)) (fun _ _ _ h => h) (Or.inl ⟨by rfl, ?_⟩) ?_ ?_
        rotate_left
        ·intro w'
         go_simp
         with_reducible rfl
        rotate_left
        ·simp only [Act.put, sI, sZ, sV, i64_w, i32_w]
         rfl
        refine pure_ (i := 2) (N := some 19) (v := ?_) (a' := ?_) (sM 10 7) rfl rfl (any_of HT_.out (by kernel_rfl)) (fun _ _ _ h => h) (Or.inl ⟨by rfl, ?_⟩) ?_ ?_
        rotate_left
        ·intro w'
         go_simp
         with_reducible rfl
        rotate_left
        ·simp only [Act.put, sI, sZ, sV, i64_w, i32_w]
         rfl
        refine pure_ (i := 4) (N := some 21) (v := ?_) (a' := ?_) (sM 10 23) rfl rfl (any_of HT_.out (by kernel_rfl)) (fun _ _ _ h => h) (Or.inl ⟨by rfl, ?_⟩) ?_ ?_
        rotate_left
        ·intro w'
         go_simp
         with_reducible rfl
        rotate_left
        ·simp only [Act.put, sI, sZ, sV, i64_w, i32_w]
         rfl
        refine pure_ (i := 5) (N := some 22) (v := ?_) (a' := ?_) (sM 10 55) rfl rfl (any_of HT_.out (by kernel_rfl)) (fun _ _ _ h => h) (Or.inl ⟨by rfl, ?_⟩) ?_ ?_
        rotate_left
        ·intro w'
         go_simp
         with_reducible rfl
        rotate_left
        ·simp only [Act.put, sI, sZ, sV, i64_w, i32_w]
         rfl
        refine pure_ (i := 6) (N := some 23) (v := ?_) (a' := ?_) (sM 10 119) rfl rfl (any_of HT_.out (by kernel_rfl)) (fun _ _ _ h => h) (Or.inl ⟨by rfl, ?_⟩) ?_ ?_
        rotate_left
        ·intro w'
         go_simp
         with_reducible rfl
        rotate_left
        ·simp only [Act.put, sI, sZ, sV, i64_w, i32_w]
         rfl
        refine take_ (i := 3) (N := some 20) (v := ?_) (a' := ?_) (sM 10 127) rfl rfl (take_ofW HT_.out HW_.out (by kernel_rfl)) (fun _ _ _ h => h) (Or.inl ⟨by rfl, ?_⟩) hHeld ?_ ?_
        rotate_left
        ·rintro w' ⟨s0, s1, s2, s3, s4, s5, s6, s7⟩
         go_simp
         with_reducible rfl
        rotate_left
        ·simp only [Act.put, sI, sZ, sV, i64_w, i32_w]
         rfl
        refine take_ (i := 7) (N := some 24) (v := ?_) (a' := ?_) (sM 10 255) rfl rfl (take_ofW HT_.out HW_.out (by kernel_rfl)) (fun _ _ _ h => h) (Or.inl ⟨by rfl, ?_⟩) hHeld ?_ ?_
        rotate_left
        ·rintro w' ⟨s0, s1, s2, s3, s4, s5, s6, s7⟩
         go_simp
         with_reducible rfl
        rotate_left
        ·simp only [Act.put, sI, sZ, sV, i64_w, i32_w]
         rfl
        refine one_ (i := 8) (N := some 25) (sM 10 511) rfl rfl (one_of HT_.out (by kernel_rfl)) (by decide) (fun K hK => ?_)
        refine goes_ Try.func11 (by kernel_rfl) rfl #[.agg #[.int .i64 ((rd_T30 l0 x5_1).f0), .int .i64 ((rd_T30 l0 x5_1).f1), .string ((rd_T30 l0 x5_1).f2), .slice A101_3 ((rd_T30 l0 x5_1).f3).length c101_3], .agg #[.int .i64 ((rd_T30 l1 x5_1).f0), .int .i64 ((rd_T30 l1 x5_1).f1), .string ((rd_T30 l1 x5_1).f2), .slice A102_3 ((rd_T30 l1 x5_1).f3).length c102_3]] (by rfl) rfl rfl (by (try simp only [List.map_toArray, List.map_cons, List.map_nil]); first | done | rfl | (simp only [List.length_drop, List.length_take]; rfl)) ?_
        with_reducible refine (laws_eqBlock.calls k1 ((rd_T30 l0 x5_1).f0) ((rd_T30 l0 x5_1).f1) ((rd_T30 l0 x5_1).f2) _ _ ((rd_T30 l0 x5_1).f3) ((rd_T30 l1 x5_1).f0) ((rd_T30 l1 x5_1).f1) ((rd_T30 l1 x5_1).f2) _ _ ((rd_T30 l1 x5_1).f3) true _ ?side1 ?side2 ?side3 ?side4 A7.out).mono ?_
        (case side1 => repeat (first | exact (Kd.C_below HR101_3.out HB.out) | (with_reducible refine Kd.C_alloc ?_ _) | (with_reducible refine Kd.C_drewN ?_ _) | (with_reducible refine Kd.C_drew ?_)))
        (case side2 => exact HC101_3.out)
        (case side3 => repeat (first | exact (Kd.C_below HR102_3.out HB.out) | (with_reducible refine Kd.C_alloc ?_ _) | (with_reducible refine Kd.C_drewN ?_ _) | (with_reducible refine Kd.C_drew ?_)))
        (case side4 => exact HC102_3.out)
        rintro e w10 ⟨rfl, hb⟩
        refine ⟨_, rfl, ?_⟩
        have n0_ := sA (below_step (by repeat (first | (with_reducible first | exact HB.out | apply sLA | apply sLN | apply sLD) | exact HB.out)) hb)
        clear HB
        have HB := n0_
        clear n0_
        (try clear hb)
        (try clear hb2)
        (try clear hk)
        (try clear hi)
        refine hK.out _ _ ⟨((HB.out.cell (World.block_lt_of_cell? w _ hw101_0)).trans hw101_0), ((HB.out.cell (World.block_lt_of_cell? w _ hw101_1)).trans hw101_1), ((HB.out.cell (World.block_lt_of_cell? w _ hw101_2)).trans hw101_2), ((HB.out.cell (World.block_lt_of_cell? w _ hw101_3)).trans hw101_3), ((HB.out.cell (World.block_lt_of_cell? w _ hw102_0)).trans hw102_0), ((HB.out.cell (World.block_lt_of_cell? w _ hw102_1)).trans hw102_1), ((HB.out.cell (World.block_lt_of_cell? w _ hw102_2)).trans hw102_2), ((HB.out.cell (World.block_lt_of_cell? w _ hw102_3)).trans hw102_3)⟩ (fun hHeld => ?_)
        clear hK K
        refine norm_ (a' := ?_) ?_ ?_
        rotate_left
        ·show Act.put _ (some 25) _ = _
         simp only [Act.put, sI, sZ, sV, i64_w, i32_w]
         rfl
        refine pure_ (i := 9) (N := some 26) (v := ?_) (a' := ?_) (sM 10 1023) rfl rfl (any_of HT_.out (by kernel_rfl)) (fun _ _ _ h => h) (Or.inl ⟨by rfl, ?_⟩) ?_ ?_
        rotate_left
        ·intro w'
         go_simp
         with_reducible rfl
        rotate_left
        ·simp only [Act.put, sI, sZ, sV, i64_w, i32_w]
         rfl
        refine done_ (done_of HT_.out (by kernel_rfl)) ?_
        try go_wp2
        go_roundg k1
        case measure => have := HK1.out; omega
        case rel => exact ⟨(wrap64 (x5_1 + 1)), (by first | rfl | (simp; done) | (simp [*]; done)), H', ⟨by have := HK1.out; omega⟩, ⟨by repeat (first | (with_reducible first | exact HB.out | apply sLA | apply sLN | apply sLD) | exact HB.out)⟩⟩
       ·replace c8 := Bool.eq_false_iff.mpr c8
        subst c8
        have H1 : (some false) = some r := by rw [if_neg (show ¬ (false = true) by decide)] at H; exact H
        clear H
        have H := H1
        clear H1
        obtain rfl := Option.some.inj H
        try go_wp2
        have n0_ := sA (below_drew1 HB.out)
        clear HB
        have HB := n0_
        clear n0_
        have p101 : 0 ≤ (x5_1 : Int) := of_decide_eq_true (by first | (with_reducible assumption) | assumption)
        have q101 : x5_1 < (l0.length : Int) := of_decide_eq_true (by first | (with_reducible assumption) | assumption)
        obtain ⟨ad101, A101_3, c101_3, e101, hx101_0, hx101_1, hx101_2, hx101_3, hl101_3, hi101_3⟩ := at_T30 HR0.out x5_1 p101 q101
        have hw101_3 := hx101_3
        have hw101_2 := hx101_2
        have hw101_1 := hx101_1
        have hw101_0 := hx101_0
        cases e101
        replace hx101_0 := (HB.out.cell (World.block_lt_of_cell? w _ hx101_0)).trans hx101_0
        replace hx101_1 := (HB.out.cell (World.block_lt_of_cell? w _ hx101_1)).trans hx101_1
        replace hx101_2 := (HB.out.cell (World.block_lt_of_cell? w _ hx101_2)).trans hx101_2
        replace hx101_3 := (HB.out.cell (World.block_lt_of_cell? w _ hx101_3)).trans hx101_3
        have HR101_3 := sA hi101_3
        have HC101_3 := sA hl101_3
        clear hi101_3 hl101_3
        replace p101 := eq_true p101
        replace q101 := eq_true q101
        have p102 : 0 ≤ (x5_1 : Int) := of_decide_eq_true (by first | (with_reducible assumption) | assumption)
        have q102 : x5_1 < (l1.length : Int) := of_decide_eq_true (by first | (with_reducible assumption) | assumption)
        obtain ⟨ad102, A102_3, c102_3, e102, hx102_0, hx102_1, hx102_2, hx102_3, hl102_3, hi102_3⟩ := at_T30 HR1.out x5_1 p102 q102
        have hw102_3 := hx102_3
        have hw102_2 := hx102_2
        have hw102_1 := hx102_1
        have hw102_0 := hx102_0
        cases e102
        replace hx102_0 := (HB.out.cell (World.block_lt_of_cell? w _ hx102_0)).trans hx102_0
        replace hx102_1 := (HB.out.cell (World.block_lt_of_cell? w _ hx102_1)).trans hx102_1
        replace hx102_2 := (HB.out.cell (World.block_lt_of_cell? w _ hx102_2)).trans hx102_2
        replace hx102_3 := (HB.out.cell (World.block_lt_of_cell? w _ hx102_3)).trans hx102_3
        have HR102_3 := sA hi102_3
        have HC102_3 := sA hl102_3
        clear hi102_3 hl102_3
        replace p102 := eq_true p102
        replace q102 := eq_true q102
        refine start_ (n := 10) (S := fun w' => w'.cell? (ad101.add ((x5_1).toNat * 4)) = some (.int .i64 ((rd_T30 l0 x5_1).f0)) ∧ w'.cell? ⟨(ad101.add ((x5_1).toNat * 4)).block, (ad101.add ((x5_1).toNat * 4)).off + 1, none⟩ = some (.int .i64 ((rd_T30 l0 x5_1).f1)) ∧ w'.cell? ⟨(ad101.add ((x5_1).toNat * 4)).block, (ad101.add ((x5_1).toNat * 4)).off + 2, none⟩ = some (.string ((rd_T30 l0 x5_1).f2)) ∧ w'.cell? ⟨(ad101.add ((x5_1).toNat * 4)).block, (ad101.add ((x5_1).toNat * 4)).off + 3, none⟩ = some (.slice A101_3 ((rd_T30 l0 x5_1).f3).length c101_3) ∧ w'.cell? (ad102.add ((x5_1).toNat * 4)) = some (.int .i64 ((rd_T30 l1 x5_1).f0)) ∧ w'.cell? ⟨(ad102.add ((x5_1).toNat * 4)).block, (ad102.add ((x5_1).toNat * 4)).off + 1, none⟩ = some (.int .i64 ((rd_T30 l1 x5_1).f1)) ∧ w'.cell? ⟨(ad102.add ((x5_1).toNat * 4)).block, (ad102.add ((x5_1).toNat * 4)).off + 2, none⟩ = some (.string ((rd_T30 l1 x5_1).f2)) ∧ w'.cell? ⟨(ad102.add ((x5_1).toNat * 4)).block, (ad102.add ((x5_1).toNat * 4)).off + 3, none⟩ = some (.slice A102_3 ((rd_T30 l1 x5_1).f3).length c102_3)) (ds := []) (sM 10 0) (by kernel_rfl) rfl rfl ⟨((HB.out.cell (World.block_lt_of_cell? w _ hw101_0)).trans hw101_0), ((HB.out.cell (World.block_lt_of_cell? w _ hw101_1)).trans hw101_1), ((HB.out.cell (World.block_lt_of_cell? w _ hw101_2)).trans hw101_2), ((HB.out.cell (World.block_lt_of_cell? w _ hw101_3)).trans hw101_3), ((HB.out.cell (World.block_lt_of_cell? w _ hw102_0)).trans hw102_0), ((HB.out.cell (World.block_lt_of_cell? w _ hw102_1)).trans hw102_1), ((HB.out.cell (World.block_lt_of_cell? w _ hw102_2)).trans hw102_2), ((HB.out.cell (World.block_lt_of_cell? w _ hw102_3)).trans hw102_3)⟩ (fun hHeld => ?_); refine with_tabW laws_eqBlockS.tab6 laws_eqBlockS.bits6 (fun HT_ HW_ => ?_)
        generalize wr.drew = w11 at HB HR101_3 HR102_3 hx101_0 hx101_1 hx101_2 hx101_3 hx102_0 hx102_1 hx102_2 hx102_3 hHeld ⊢
        refine pure_ (i := 0) (N := some 17) (v := ?_) (a' := ?_) (sM 10 1) rfl rfl (any_of HT_.out (by kernel_rfl)) (fun _ _ _ h => h) (Or.inl ⟨by rfl, ?_⟩) ?_ ?_
        rotate_left
        ·intro w'
         go_simp
         with_reducible rfl
        rotate_left
        ·simp only [Act.put, sI, sZ, sV, i64_w, i32_w]
         rfl
        refine pure_ (i := 1) (N := some 18) (v := ?_) (a' := ?_) (sM 10 3) rfl rfl (any_of HT_.out (by kernel_rfl)) (fun _ _ _ h => h) (Or.inl ⟨by rfl, ?_⟩) ?_ ?_
        rotate_left
        ·intro w'
         go_simp
         with_reducible rfl
        rotate_left
        ·simp only [Act.put, sI, sZ, sV, i64_w, i32_w]
         rfl
        refine pure_ (i := 2) (N := some 19) (v := ?_) (a' := ?_) (sM 10 7) rfl rfl (any_of HT_.out (by kernel_rfl)) (fun _ _ _ h => h) (Or.inl ⟨by rfl, ?_⟩) ?_ ?_
        rotate_left
        ·intro w'
         go_simp
         with_reducible rfl
        rotate_left
        ·simp only [Act.put, sI, sZ, sV, i64_w, i32_w]
         rfl
        refine pure_ (i := 4) (N := some 21) (v := ?_) (a' := ?_) (sM 10 23) rfl rfl (any_of HT_.out (by kernel_rfl)) (fun _ _ _ h => h) (Or.inl ⟨by rfl, ?_⟩) ?_ ?_
        rotate_left
        ·intro w'
         go_simp
         with_reducible rfl
        rotate_left
        ·simp only [Act.put, sI, sZ, sV, i64_w, i32_w]
         rfl
        refine pure_ (i := 5) (N := some 22) (v := ?_) (a' := ?_) (sM 10 55) rfl rfl (any_of HT_.out (by kernel_rfl)) (fun _ _ _ h => h) (Or.inl ⟨by rfl, ?_⟩) ?_ ?_
        rotate_left
        ·intro w'
         go_simp
         with_reducible rfl
        rotate_left
        ·simp only [Act.put, sI, sZ, sV, i64_w, i32_w]
         rfl
        refine pure_ (i := 6) (N := some 23) (v := ?_) (a' := ?_) (sM 10 119) rfl rfl (any_of HT_.out (by kernel_rfl)) (fun _ _ _ h => h) (Or.inl ⟨by rfl, ?_⟩) ?_ ?_
        rotate_left
        ·intro w'
         go_simp
         with_reducible rfl
        rotate_left
        ·simp only [Act.put, sI, sZ, sV, i64_w, i32_w]
         rfl
        refine take_ (i := 3) (N := some 20) (v := ?_) (a' := ?_) (sM 10 127) rfl rfl (take_ofW HT_.out HW_.out (by kernel_rfl)) (fun _ _ _ h => h) (Or.inl ⟨by rfl, ?_⟩) hHeld ?_ ?_
        rotate_left
        ·rintro w' ⟨s0, s1, s2, s3, s4, s5, s6, s7⟩
         go_simp
         with_reducible rfl
        rotate_left
        ·simp only [Act.put, sI, sZ, sV, i64_w, i32_w]
         rfl
        refine take_ (i := 7) (N := some 24) (v := ?_) (a' := ?_) (sM 10 255) rfl rfl (take_ofW HT_.out HW_.out (by kernel_rfl)) (fun _ _ _ h => h) (Or.inl ⟨by rfl, ?_⟩) hHeld ?_ ?_
        rotate_left
        ·rintro w' ⟨s0, s1, s2, s3, s4, s5, s6, s7⟩
         go_simp
         with_reducible rfl
        rotate_left
        ·simp only [Act.put, sI, sZ, sV, i64_w, i32_w]
         rfl
        refine one_ (i := 8) (N := some 25) (sM 10 511) rfl rfl (one_of HT_.out (by kernel_rfl)) (by decide) (fun K hK => ?_)
        refine goes_ Try.func11 (by kernel_rfl) rfl #[.agg #[.int .i64 ((rd_T30 l0 x5_1).f0), .int .i64 ((rd_T30 l0 x5_1).f1), .string ((rd_T30 l0 x5_1).f2), .slice A101_3 ((rd_T30 l0 x5_1).f3).length c101_3], .agg #[.int .i64 ((rd_T30 l1 x5_1).f0), .int .i64 ((rd_T30 l1 x5_1).f1), .string ((rd_T30 l1 x5_1).f2), .slice A102_3 ((rd_T30 l1 x5_1).f3).length c102_3]] (by rfl) rfl rfl (by (try simp only [List.map_toArray, List.map_cons, List.map_nil]); first | done | rfl | (simp only [List.length_drop, List.length_take]; rfl)) ?_
        with_reducible refine (laws_eqBlock.calls k1 ((rd_T30 l0 x5_1).f0) ((rd_T30 l0 x5_1).f1) ((rd_T30 l0 x5_1).f2) _ _ ((rd_T30 l0 x5_1).f3) ((rd_T30 l1 x5_1).f0) ((rd_T30 l1 x5_1).f1) ((rd_T30 l1 x5_1).f2) _ _ ((rd_T30 l1 x5_1).f3) false _ ?side1 ?side2 ?side3 ?side4 A7.out).mono ?_
        (case side1 => repeat (first | exact (Kd.C_below HR101_3.out HB.out) | (with_reducible refine Kd.C_alloc ?_ _) | (with_reducible refine Kd.C_drewN ?_ _) | (with_reducible refine Kd.C_drew ?_)))
        (case side2 => exact HC101_3.out)
        (case side3 => repeat (first | exact (Kd.C_below HR102_3.out HB.out) | (with_reducible refine Kd.C_alloc ?_ _) | (with_reducible refine Kd.C_drewN ?_ _) | (with_reducible refine Kd.C_drew ?_)))
        (case side4 => exact HC102_3.out)
        rintro e w12 ⟨rfl, hb⟩
        refine ⟨_, rfl, ?_⟩
        have n0_ := sA (below_step (by repeat (first | (with_reducible first | exact HB.out | apply sLA | apply sLN | apply sLD) | exact HB.out)) hb)
        clear HB
        have HB := n0_
        clear n0_
        (try clear hb)
        (try clear hb2)
        (try clear hk)
        (try clear hi)
        refine hK.out _ _ ⟨((HB.out.cell (World.block_lt_of_cell? w _ hw101_0)).trans hw101_0), ((HB.out.cell (World.block_lt_of_cell? w _ hw101_1)).trans hw101_1), ((HB.out.cell (World.block_lt_of_cell? w _ hw101_2)).trans hw101_2), ((HB.out.cell (World.block_lt_of_cell? w _ hw101_3)).trans hw101_3), ((HB.out.cell (World.block_lt_of_cell? w _ hw102_0)).trans hw102_0), ((HB.out.cell (World.block_lt_of_cell? w _ hw102_1)).trans hw102_1), ((HB.out.cell (World.block_lt_of_cell? w _ hw102_2)).trans hw102_2), ((HB.out.cell (World.block_lt_of_cell? w _ hw102_3)).trans hw102_3)⟩ (fun hHeld => ?_)
        clear hK K
        refine norm_ (a' := ?_) ?_ ?_
        rotate_left
        ·show Act.put _ (some 25) _ = _
         simp only [Act.put, sI, sZ, sV, i64_w, i32_w]
         rfl
        refine pure_ (i := 9) (N := some 26) (v := ?_) (a' := ?_) (sM 10 1023) rfl rfl (any_of HT_.out (by kernel_rfl)) (fun _ _ _ h => h) (Or.inl ⟨by rfl, ?_⟩) ?_ ?_
        rotate_left
        ·intro w'
         go_simp
         with_reducible rfl
        rotate_left
        ·simp only [Act.put, sI, sZ, sV, i64_w, i32_w]
         rfl
        refine done_ (done_of HT_.out (by kernel_rfl)) ?_
        try go_wp2
        go_ret
        exact ⟨by first | rfl | (simp [errW_none, errW_some] <;> rfl) | (simp [*, errW_none, errW_some] <;> rfl), by repeat (first | (with_reducible first | exact HB.out | apply sLA | apply sLN | apply sLD) | exact HB.out)⟩
      ·rw [if_neg c6] at H
       exact absurd H (by simp)
     ·rw [if_neg c5] at H
      exact absurd H (by simp)
    ·rw [if_neg c4] at H
     have c4b0 : decide (x5_1 < (l0.length : Int)) = false := decide_eq_false c4
     clear c4
     obtain rfl := Option.some.inj H
     go_wp2
     go_ret
     exact ⟨by first | rfl | (simp [errW_none, errW_some] <;> rfl) | (simp [*, errW_none, errW_some] <;> rfl), by repeat (first | (with_reducible first | exact HB.out | apply sLA | apply sLN | apply sLD) | exact HB.out)⟩
 ·rw [if_neg c3] at H
  have c3b0 : ((l0.length : Int) == (l1.length : Int)) = false := beq_eq_false_iff_ne.mpr c3
  have c3b1 : ((l0.length : Int) != (l1.length : Int)) = true := bne_iff_ne.mpr c3
  have c3b2 : (l0.length == l1.length) = false := by first | simpa using c3 | (simp at c3 ⊢; omega)
  obtain rfl := Option.some.inj H
  go_enter Try.func51, Try.ntmps51
  go_wp2
  go_ret
  exact ⟨by first | rfl | (simp [errW_none, errW_some] <;> rfl) | (simp [*, errW_none, errW_some] <;> rfl), by repeat (first | (with_reducible first | exact HB.out | apply sLA | apply sLN | apply sLD) | exact HB.out)⟩

end Go.Proofs.Ytenefihoegkliaa.P

namespace Go.Proofs.Ytenefihoegkliaa.P
open Go.RowKit Go.Proofs.YtenefihoegkliaaW.PrintWords Go.Proofs.YtenefihoegkliaaW.PrintLast Go.Proofs.YtenefihoegkliaaW.PrintMore
attribute [local go_sem] max2_int min2_int max_two min_two max_three min_three max_four min_four
set_option linter.unusedVariables false
set_option linter.unusedSimpArgs false

/-! ### laws_eqIntS: function 52 -/
def laws_eqIntS.l0 : Nat → List Int → List Int → Int → Option (Bool)
  | 0, _, _, _ => none
  | k + 1, x0, x1, x5 => if x5 < (x0.length : Int) then (if 0 ≤ x5 then (if x5 < (x1.length : Int) then (if (rd x0 x5) = (rd x1 x5) then (laws_eqIntS.l0 k x0 x1 (wrap64 (x5 + 1))) else (some false)) else (none)) else (none)) else (some true)
def laws_eqIntS.f (k : Nat) (l0 : List Int) (l1 : List Int) : Option (Bool) := if (l0.length : Int) = (l1.length : Int) then (laws_eqIntS.l0 k l0 l1 0) else (some false)
theorem laws_eqIntS.mono_l : ∀ k, (∀ y0 y1 y2, LeO (laws_eqIntS.l0 k y0 y1 y2) (laws_eqIntS.l0 (k + 1) y0 y1 y2))
  | 0 => fun _ _ _ r h => by simp [laws_eqIntS.l0] at h
  | k + 1 => by
    have ih0 := laws_eqIntS.mono_l k
    · intro y0 y1 y2
      unfold laws_eqIntS.l0
      repeat' first
      | (with_reducible exact ih0 _ _ _)
      | (with_reducible exact LeO.refl _)
      | (with_reducible exact LeO.none _)
      | (with_reducible refine LeO.ite ?_ ?_)
      | (with_reducible refine LeO.bind ?_ (fun _ => ?_))
      | exact ih0 _ _ _
      | exact LeO.none _
      | refine LeO.ite ?_ ?_
      | refine LeO.bind ?_ (fun _ => ?_)
theorem laws_eqIntS.mono : ∀ a0 a1 k, LeO (laws_eqIntS.f k a0 a1) (laws_eqIntS.f (k + 1) a0 a1) := by
  intro a0 a1 k
  have ih0 := laws_eqIntS.mono_l k
  unfold laws_eqIntS.f
  repeat' first
      | (with_reducible exact ih0 _ _ _)
      | (with_reducible exact LeO.refl _)
      | (with_reducible exact LeO.none _)
      | (with_reducible refine LeO.ite ?_ ?_)
      | (with_reducible refine LeO.bind ?_ (fun _ => ?_))
      | exact ih0 _ _ _
      | exact LeO.none _
      | refine LeO.ite ?_ ?_
      | refine LeO.bind ?_ (fun _ => ?_)
set_option maxHeartbeats 8000000 in
set_option maxRecDepth 100000 in
theorem laws_eqIntS.calls (k : Nat) (A0 : Option Addr) (c0 : Nat) (l0 : List Int) (A1 : Option Addr) (c1 : Nat) (l1 : List Int) (r : Bool) (w : World) (hr0 : Kd.C (Kd.int .i64) w A0 l0.length l0) (hc0 : l0.length ≤ c0) (hr1 : Kd.C (Kd.int .i64) w A1 l1.length l1) (hc1 : l1.length ≤ c1) (h : laws_eqIntS.f k l0 l1 = some r) :
  Calls Try.prog 52 #[.slice A0 l0.length c0, .slice A1 l1.length c1] w fun e w' => e = .returned (.bool r) ∧ Drawn0 w w' := by
 have HR0 := sA hr0
 have HC0 := sA hc0
 clear hr0 hc0
 have HR1 := sA hr1
 have HC1 := sA hc1
 clear hr1 hc1
 have H : (if (l0.length : Int) = (l1.length : Int) then (laws_eqIntS.l0 k l0 l1 0) else (some false)) = some r := h
 clear h
 by_cases c3 : (l0.length : Int) = (l1.length : Int)
 ·rw [if_pos c3] at H
  have c3b0 : ((l0.length : Int) == (l1.length : Int)) = true := beq_iff_eq.mpr c3
  have c3b1 : ((l0.length : Int) != (l1.length : Int)) = false := bne_eq_false_iff_eq.mpr c3
  have c3b2 : (l0.length == l1.length) = true := by first | simpa using c3 | (simp at c3 ⊢; omega)
  clear c3
  have H' := sA H
  clear H
  go_enter Try.func52, Try.ntmps52
  go_wp2
  repeat (go_quiet (fail); try go_wp2)
  go_loopg [5] k (fun kq v5 w' => ∃ (x5_1 : Int), v5 = .int .i64 x5_1 ∧ Aside0 (laws_eqIntS.l0 kq l0 l1 x5_1 = some r) ∧ Aside0 (kq ≤ k) ∧ Drawn0 w w')
  case atStart => exact ⟨(0), (by first | rfl | (simp; done) | (simp [*]; done)), H', ⟨Nat.le_refl _⟩, by repeat (first | exact Drawn0.refl _ | apply Drawn0.step)⟩
  case round =>
   clear H'
   try clear c1
   try clear p2
   try clear c3
   try clear c3b0
   try clear c3b1
   try clear c3b2
   obtain ⟨x5_1, rfl, HA, HK1, ⟨m1, rfl⟩⟩ := hrel
   cases gk with
   | zero => exact absurd HA.out (by simp [laws_eqIntS.l0])
   | succ k1 =>
    have H := HA.out
    clear HA
    simp only [laws_eqIntS.l0] at H
    by_cases c4 : x5_1 < (l0.length : Int)
    ·rw [if_pos c4] at H
     have c4b0 : decide (x5_1 < (l0.length : Int)) = true := decide_eq_true c4
     clear c4
     by_cases c5 : 0 ≤ x5_1
     ·rw [if_pos c5] at H
      have c5b0 : decide (0 ≤ x5_1) = true := decide_eq_true c5
      clear c5
      by_cases c6 : x5_1 < (l1.length : Int)
      ·rw [if_pos c6] at H
       have c6b0 : decide (x5_1 < (l1.length : Int)) = true := decide_eq_true c6
       clear c6
       by_cases c7 : (rd l0 x5_1) = (rd l1 x5_1)
       ·rw [if_pos c7] at H
        have c7b0 : ((rd l0 x5_1) == (rd l1 x5_1)) = true := beq_iff_eq.mpr c7
        have c7b1 : ((rd l0 x5_1) != (rd l1 x5_1)) = false := bne_eq_false_iff_eq.mpr c7
        clear c7
        have H' := sA H
        clear H
        have p101 : 0 ≤ (x5_1 : Int) := of_decide_eq_true (by first | (with_reducible assumption) | assumption)
        have q101 : x5_1 < (l0.length : Int) := of_decide_eq_true (by first | (with_reducible assumption) | assumption)
        obtain ⟨ad101, e101, hx101_0⟩ := Kd.at_int HR0.out x5_1 p101 q101
        cases e101
        replace p101 := eq_true p101
        replace q101 := eq_true q101
        have p102 : 0 ≤ (x5_1 : Int) := of_decide_eq_true (by first | (with_reducible assumption) | assumption)
        have q102 : x5_1 < (l1.length : Int) := of_decide_eq_true (by first | (with_reducible assumption) | assumption)
        obtain ⟨ad102, e102, hx102_0⟩ := Kd.at_int HR1.out x5_1 p102 q102
        cases e102
        replace p102 := eq_true p102
        replace q102 := eq_true q102
        go_wp2
        repeat (go_quiet (fail); try go_wp2)
        go_roundg k1
        case measure => have := HK1.out; omega
        case rel => exact ⟨(wrap64 (x5_1 + 1)), (by first | rfl | (simp; done) | (simp [*]; done)), H', ⟨by have := HK1.out; omega⟩, by repeat (first | exact Drawn0.refl _ | apply Drawn0.step)⟩
       ·rw [if_neg c7] at H
        have c7b0 : ((rd l0 x5_1) == (rd l1 x5_1)) = false := beq_eq_false_iff_ne.mpr c7
        have c7b1 : ((rd l0 x5_1) != (rd l1 x5_1)) = true := bne_iff_ne.mpr c7
        obtain rfl := Option.some.inj H
        have p101 : 0 ≤ (x5_1 : Int) := of_decide_eq_true (by first | (with_reducible assumption) | assumption)
        have q101 : x5_1 < (l0.length : Int) := of_decide_eq_true (by first | (with_reducible assumption) | assumption)
        obtain ⟨ad101, e101, hx101_0⟩ := Kd.at_int HR0.out x5_1 p101 q101
        cases e101
        replace p101 := eq_true p101
        replace q101 := eq_true q101
        have p102 : 0 ≤ (x5_1 : Int) := of_decide_eq_true (by first | (with_reducible assumption) | assumption)
        have q102 : x5_1 < (l1.length : Int) := of_decide_eq_true (by first | (with_reducible assumption) | assumption)
        obtain ⟨ad102, e102, hx102_0⟩ := Kd.at_int HR1.out x5_1 p102 q102
        cases e102
        replace p102 := eq_true p102
        replace q102 := eq_true q102
        go_wp2
        repeat (go_quiet (fail); try go_wp2)
        go_ret
        exact ⟨by first | rfl | (simp; done) | (simp [*]; done), by repeat (first | exact Drawn0.refl _ | apply Drawn0.step)⟩
      ·rw [if_neg c6] at H
       exact absurd H (by simp)
     ·rw [if_neg c5] at H
      exact absurd H (by simp)
    ·rw [if_neg c4] at H
     have c4b0 : decide (x5_1 < (l0.length : Int)) = false := decide_eq_false c4
     clear c4
     obtain rfl := Option.some.inj H
     go_wp2
     repeat (go_quiet (fail); try go_wp2)
     go_ret
     exact ⟨by first | rfl | (simp; done) | (simp [*]; done), by repeat (first | exact Drawn0.refl _ | apply Drawn0.step)⟩
 ·rw [if_neg c3] at H
  have c3b0 : ((l0.length : Int) == (l1.length : Int)) = false := beq_eq_false_iff_ne.mpr c3
  have c3b1 : ((l0.length : Int) != (l1.length : Int)) = true := bne_iff_ne.mpr c3
  have c3b2 : (l0.length == l1.length) = false := by first | simpa using c3 | (simp at c3 ⊢; omega)
  obtain rfl := Option.some.inj H
  go_enter Try.func52, Try.ntmps52
  go_wp2
  repeat (go_quiet (fail); try go_wp2)
  go_ret
  exact ⟨by first | rfl | (simp; done) | (simp [*]; done), by repeat (first | exact Drawn0.refl _ | apply Drawn0.step)⟩

end Go.Proofs.Ytenefihoegkliaa.P

namespace Go.Proofs.Ytenefihoegkliaa.P
open Go.RowKit Go.Proofs.YtenefihoegkliaaW.PrintWords Go.Proofs.YtenefihoegkliaaW.PrintLast Go.Proofs.YtenefihoegkliaaW.PrintMore
attribute [local go_sem] max2_int min2_int max_two min_two max_three min_three max_four min_four
set_option linter.unusedVariables false
set_option linter.unusedSimpArgs false

/-! ### laws_eqStore: function 24 -/
def laws_eqStore.f (k : Nat) (l0_0 : List (S30)) (l0_1 : List Int) (l1_0 : List (S30)) (l1_1 : List Int) : Option (Bool) := (laws_eqBlockS.f k l0_0 l1_0).bind fun t103 => (if t103 = true then ((laws_eqIntS.f k l0_1 l1_1).bind fun t104 => (if t104 = true then (some true) else (some false))) else (some false))
theorem laws_eqStore.mono : ∀ a0 a1 a2 a3 k, LeO (laws_eqStore.f k a0 a1 a2 a3) (laws_eqStore.f (k + 1) a0 a1 a2 a3) := by
  intro a0 a1 a2 a3 k
  unfold laws_eqStore.f
  repeat' first
      | (with_reducible exact laws_eqBlockS.mono _ _ _)
      | (with_reducible exact laws_eqIntS.mono _ _ _)
      | (with_reducible exact LeO.refl _)
      | (with_reducible exact LeO.none _)
      | (with_reducible refine LeO.ite ?_ ?_)
      | (with_reducible refine LeO.bind ?_ (fun _ => ?_))
      | exact laws_eqBlockS.mono _ _ _
      | exact laws_eqIntS.mono _ _ _
      | exact LeO.none _
      | refine LeO.ite ?_ ?_
      | refine LeO.bind ?_ (fun _ => ?_)
set_option maxHeartbeats 8000000 in
set_option maxRecDepth 100000 in
theorem laws_eqStore.calls (k : Nat) (A0_0 : Option Addr) (c0_0 : Nat) (l0_0 : List (S30)) (A0_1 : Option Addr) (c0_1 : Nat) (l0_1 : List Int) (A1_0 : Option Addr) (c1_0 : Nat) (l1_0 : List (S30)) (A1_1 : Option Addr) (c1_1 : Nat) (l1_1 : List Int) (r : Bool) (w : World) (hr0_0 : Kd.C k30 w A0_0 l0_0.length l0_0) (hc0_0 : l0_0.length ≤ c0_0) (hr0_1 : Kd.C (Kd.int .i64) w A0_1 l0_1.length l0_1) (hc0_1 : l0_1.length ≤ c0_1) (hr1_0 : Kd.C k30 w A1_0 l1_0.length l1_0) (hc1_0 : l1_0.length ≤ c1_0) (hr1_1 : Kd.C (Kd.int .i64) w A1_1 l1_1.length l1_1) (hc1_1 : l1_1.length ≤ c1_1) (h : laws_eqStore.f k l0_0 l0_1 l1_0 l1_1 = some r) :
  Calls Try.prog 24 #[.agg #[.slice A0_0 l0_0.length c0_0, .slice A0_1 l0_1.length c0_1], .agg #[.slice A1_0 l1_0.length c1_0, .slice A1_1 l1_1.length c1_1]] w fun e w' => e = .returned (.bool r) ∧ Below w.heap.size w w' := by
 have hu54 := Try.underlying54
 have HR0_0 := sA hr0_0
 have HC0_0 := sA hc0_0
 clear hr0_0 hc0_0
 have HR0_1 := sA hr0_1
 have HC0_1 := sA hc0_1
 clear hr0_1 hc0_1
 have HR1_0 := sA hr1_0
 have HC1_0 := sA hc1_0
 clear hr1_0 hc1_0
 have HR1_1 := sA hr1_1
 have HC1_1 := sA hc1_1
 clear hr1_1 hc1_1
 have HB := sA (Below.refl w.heap.size w)
 have H : ((laws_eqBlockS.f k l0_0 l1_0).bind fun t103 => (if t103 = true then ((laws_eqIntS.f k l0_1 l1_1).bind fun t104 => (if t104 = true then (some true) else (some false))) else (some false))) = some r := h
 clear h
 replace H := Option.bind_eq_some_iff.mp H
 obtain ⟨t103, A30, H⟩ := H
 replace H : (if t103 = true then ((laws_eqIntS.f k l0_1 l1_1).bind fun t104 => (if t104 = true then (some true) else (some false))) else (some false)) = some r := H
 have A3 := sA A30
 clear A30
 by_cases c4 : t103 = true
 ·subst c4
  have H1 : ((laws_eqIntS.f k l0_1 l1_1).bind fun t104 => (if t104 = true then (some true) else (some false))) = some r := by rw [if_pos rfl] at H; exact H
  clear H
  have H := H1
  clear H1
  replace H := Option.bind_eq_some_iff.mp H
  obtain ⟨t104, A50, H⟩ := H
  replace H : (if t104 = true then (some true) else (some false)) = some r := H
  have A5 := sA A50
  clear A50
  by_cases c6 : t104 = true
  ·subst c6
   have H1 : (some true) = some r := by rw [if_pos rfl] at H; exact H
   clear H
   have H := H1
   clear H1
   obtain rfl := Option.some.inj H
   go_enter Try.func24, Try.ntmps24
   go_wp2_with (first | ((with_reducible refine gate_dst (N := 2) rfl ?_); refine box_event ?hg (N := 2) ?hd (cs := #[.slice A0_0 l0_0.length c0_0, .slice A0_1 l0_1.length c0_1]) (t := 54) ?hr ?_; (case hd => rfl); (case hg => rfl); (case hr => first | (go_simp; done) | (go_simp; rfl)); intro gb101 hg w7 hbox hb; have n0_ := sA (below_step (by repeat (first | (with_reducible first | exact HB.out | apply sLA | apply sLN | apply sLD) | exact HB.out)) hb); have n1_ := sA (hbox); have n2_ := sA ((by rw [hg]; exact (below_size (by repeat (first | (with_reducible first | exact HB.out | apply sLA | apply sLN | apply sLD) | exact HB.out))) : w.heap.size ≤ gb101)); have n3_ := sA ((by rw [hg]; exact (below_size (by repeat (first | (with_reducible first | exact HB.out | apply sLA | apply sLN | apply sLD) | exact HB.out))) : w.heap.size ≤ gb101)); clear HB; have HB := n0_; have BK101 := n1_; have GW101 := n2_; have GE101 := n3_; clear n0_ n1_ n2_ n3_; clear hb hbox hg) | ((with_reducible refine gate_dst (N := 3) rfl ?_); refine box_event ?hg (N := 3) ?hd (cs := #[.slice A1_0 l1_0.length c1_0, .slice A1_1 l1_1.length c1_1]) (t := 54) ?hr ?_; (case hd => rfl); (case hg => rfl); (case hr => first | (go_simp; done) | (go_simp; rfl)); intro gb102 hg w8 hbox hb; have n0_ := sA (blk_below (sB BK101.out) hb); have n1_ := sA (below_step (by repeat (first | (with_reducible first | exact HB.out | apply sLA | apply sLN | apply sLD | refine sLS ?_ GE101.out) | exact HB.out)) hb); have n2_ := sA (hbox); have n3_ := sA ((by rw [hg]; exact (below_size (by repeat (first | (with_reducible first | exact HB.out | apply sLA | apply sLN | apply sLD | refine sLS ?_ GE101.out) | exact HB.out))) : w.heap.size ≤ gb102)); have n4_ := sA ((by rw [hg]; exact (below_size (by repeat (first | (with_reducible first | exact HB.out | apply sLA | apply sLN | apply sLD | refine sLS ?_ GE101.out) | exact HB.out))) : w.heap.size ≤ gb102)); have n5_ := sA ((by rw [hg]; exact Nat.ne_of_lt (blk_lt (sB BK101.out)) : gb101 ≠ gb102)); have n6_ := sA ((by rw [hg]; exact Nat.ne_of_gt (blk_lt (sB BK101.out)) : gb102 ≠ gb101)); clear BK101; clear HB; have BK101 := n0_; have HB := n1_; have BK102 := n2_; have GW102 := n3_; have GE102 := n4_; have NB101_102 := n5_; have NB102_101 := n6_; clear n0_ n1_ n2_ n3_ n4_ n5_ n6_; clear hb hbox hg; have hnb9 := NB101_102.out; have hnc9 := NB102_101.out; have hcz10_0 : w8.cell? ⟨gb101, 0, none⟩ = some (.slice A0_0 l0_0.length c0_0) := sC BK101 0 rfl; have hcz10_1 : w8.cell? ⟨gb101, 1, none⟩ = some (.slice A0_1 l0_1.length c0_1) := sC BK101 1 rfl; have hfz10_0 := blk_frozen BK101.out 0; have hfz10_1 := blk_frozen BK101.out 1; have hcz11_0 : w8.cell? ⟨gb102, 0, none⟩ = some (.slice A1_0 l1_0.length c1_0) := sC BK102 0 rfl; have hcz11_1 : w8.cell? ⟨gb102, 1, none⟩ = some (.slice A1_1 l1_1.length c1_1) := sC BK102 1 rfl; have hfz11_0 := blk_frozen BK102.out 0; have hfz11_1 := blk_frozen BK102.out 1) | ((with_reducible refine gate_callee (f := 51) rfl ?_); refine goesL_ (some 9) rfl rfl Try.func51 (by kernel_rfl) rfl #[.slice A0_0 l0_0.length c0_0, .slice A1_0 l1_0.length c1_0] rfl (by (try simp only [List.map_toArray, List.map_cons, List.map_nil]); first | done | rfl | (simp only [List.length_drop, List.length_take]; rfl)) ?_; (with_reducible refine (laws_eqBlockS.calls k _ _ l0_0 _ _ l1_0 true _ ?side1 ?side2 ?side3 ?side4 A3.out).mono ?_); (case side1 => repeat (first | exact (Kd.C_below HR0_0.out HB.out) | (with_reducible refine Kd.C_alloc ?_ _) | (with_reducible refine Kd.C_drewN ?_ _) | (with_reducible refine Kd.C_drew ?_))); (case side2 => exact HC0_0.out); (case side3 => repeat (first | exact (Kd.C_below HR1_0.out HB.out) | (with_reducible refine Kd.C_alloc ?_ _) | (with_reducible refine Kd.C_drewN ?_ _) | (with_reducible refine Kd.C_drew ?_))); (case side4 => exact HC1_0.out); rintro e w12 ⟨rfl, hb⟩; refine ⟨_, rfl, ?_⟩; have n0_ := sA (blk_below (sB BK101.out) hb); have n1_ := sA (blk_below (sB BK102.out) hb); have n2_ := sA (below_step (by repeat (first | (with_reducible first | exact HB.out | apply sLA | apply sLN | apply sLD | refine sLS ?_ (Aside0.out (by assumption))) | exact HB.out)) hb); clear BK101; clear BK102; clear HB; have BK101 := n0_; have BK102 := n1_; have HB := n2_; clear n0_ n1_ n2_; (try clear hb); (try clear hb2); (try clear hk); (try clear hi); have hcz13_0 : w12.cell? ⟨gb101, 0, none⟩ = some (.slice A0_0 l0_0.length c0_0) := sC BK101 0 rfl; have hcz13_1 : w12.cell? ⟨gb101, 1, none⟩ = some (.slice A0_1 l0_1.length c0_1) := sC BK101 1 rfl; have hfz13_0 := blk_frozen BK101.out 0; have hfz13_1 := blk_frozen BK101.out 1; have hcz14_0 : w12.cell? ⟨gb102, 0, none⟩ = some (.slice A1_0 l1_0.length c1_0) := sC BK102 0 rfl; have hcz14_1 : w12.cell? ⟨gb102, 1, none⟩ = some (.slice A1_1 l1_1.length c1_1) := sC BK102 1 rfl; have hfz14_0 := blk_frozen BK102.out 0; have hfz14_1 := blk_frozen BK102.out 1) | ((with_reducible refine gate_callee (f := 52) rfl ?_); refine goesL_ (some 15) rfl rfl Try.func52 (by kernel_rfl) rfl #[.slice A0_1 l0_1.length c0_1, .slice A1_1 l1_1.length c1_1] rfl (by (try simp only [List.map_toArray, List.map_cons, List.map_nil]); first | done | rfl | (simp only [List.length_drop, List.length_take]; rfl)) ?_; (with_reducible refine (laws_eqIntS.calls k _ _ l0_1 _ _ l1_1 true _ ?side1 ?side2 ?side3 ?side4 A5.out).mono ?_); (case side1 => repeat (first | exact (Kd.C_below HR0_1.out HB.out) | (with_reducible refine Kd.C_alloc ?_ _) | (with_reducible refine Kd.C_drewN ?_ _) | (with_reducible refine Kd.C_drew ?_))); (case side2 => exact HC0_1.out); (case side3 => repeat (first | exact (Kd.C_below HR1_1.out HB.out) | (with_reducible refine Kd.C_alloc ?_ _) | (with_reducible refine Kd.C_drewN ?_ _) | (with_reducible refine Kd.C_drew ?_))); (case side4 => exact HC1_1.out); rintro e w' ⟨rfl, ⟨nd, rfl⟩⟩; refine ⟨_, rfl, ?_⟩))
   go_ret
   exact ⟨by first | rfl | (simp [errW_none, errW_some] <;> rfl) | (simp [*, errW_none, errW_some] <;> rfl), by repeat (first | (with_reducible first | exact HB.out | apply sLA | apply sLN | apply sLD | refine sLS ?_ GE101.out | refine sLS ?_ GE102.out) | exact HB.out)⟩
  ·replace c6 := Bool.eq_false_iff.mpr c6
   subst c6
   have H1 : (some false) = some r := by rw [if_neg (show ¬ (false = true) by decide)] at H; exact H
   clear H
   have H := H1
   clear H1
   obtain rfl := Option.some.inj H
   go_enter Try.func24, Try.ntmps24
   go_wp2_with (first | ((with_reducible refine gate_dst (N := 2) rfl ?_); refine box_event ?hg (N := 2) ?hd (cs := #[.slice A0_0 l0_0.length c0_0, .slice A0_1 l0_1.length c0_1]) (t := 54) ?hr ?_; (case hd => rfl); (case hg => rfl); (case hr => first | (go_simp; done) | (go_simp; rfl)); intro gb101 hg w15 hbox hb; have n0_ := sA (below_step (by repeat (first | (with_reducible first | exact HB.out | apply sLA | apply sLN | apply sLD) | exact HB.out)) hb); have n1_ := sA (hbox); have n2_ := sA ((by rw [hg]; exact (below_size (by repeat (first | (with_reducible first | exact HB.out | apply sLA | apply sLN | apply sLD) | exact HB.out))) : w.heap.size ≤ gb101)); have n3_ := sA ((by rw [hg]; exact (below_size (by repeat (first | (with_reducible first | exact HB.out | apply sLA | apply sLN | apply sLD) | exact HB.out))) : w.heap.size ≤ gb101)); clear HB; have HB := n0_; have BK101 := n1_; have GW101 := n2_; have GE101 := n3_; clear n0_ n1_ n2_ n3_; clear hb hbox hg) | ((with_reducible refine gate_dst (N := 3) rfl ?_); refine box_event ?hg (N := 3) ?hd (cs := #[.slice A1_0 l1_0.length c1_0, .slice A1_1 l1_1.length c1_1]) (t := 54) ?hr ?_; (case hd => rfl); (case hg => rfl); (case hr => first | (go_simp; done) | (go_simp; rfl)); intro gb102 hg w16 hbox hb; have n0_ := sA (blk_below (sB BK101.out) hb); have n1_ := sA (below_step (by repeat (first | (with_reducible first | exact HB.out | apply sLA | apply sLN | apply sLD | refine sLS ?_ GE101.out) | exact HB.out)) hb); have n2_ := sA (hbox); have n3_ := sA ((by rw [hg]; exact (below_size (by repeat (first | (with_reducible first | exact HB.out | apply sLA | apply sLN | apply sLD | refine sLS ?_ GE101.out) | exact HB.out))) : w.heap.size ≤ gb102)); have n4_ := sA ((by rw [hg]; exact (below_size (by repeat (first | (with_reducible first | exact HB.out | apply sLA | apply sLN | apply sLD | refine sLS ?_ GE101.out) | exact HB.out))) : w.heap.size ≤ gb102)); have n5_ := sA ((by rw [hg]; exact Nat.ne_of_lt (blk_lt (sB BK101.out)) : gb101 ≠ gb102)); have n6_ := sA ((by rw [hg]; exact Nat.ne_of_gt (blk_lt (sB BK101.out)) : gb102 ≠ gb101)); clear BK101; clear HB; have BK101 := n0_; have HB := n1_; have BK102 := n2_; have GW102 := n3_; have GE102 := n4_; have NB101_102 := n5_; have NB102_101 := n6_; clear n0_ n1_ n2_ n3_ n4_ n5_ n6_; clear hb hbox hg; have hnb17 := NB101_102.out; have hnc17 := NB102_101.out; have hcz18_0 : w16.cell? ⟨gb101, 0, none⟩ = some (.slice A0_0 l0_0.length c0_0) := sC BK101 0 rfl; have hcz18_1 : w16.cell? ⟨gb101, 1, none⟩ = some (.slice A0_1 l0_1.length c0_1) := sC BK101 1 rfl; have hfz18_0 := blk_frozen BK101.out 0; have hfz18_1 := blk_frozen BK101.out 1; have hcz19_0 : w16.cell? ⟨gb102, 0, none⟩ = some (.slice A1_0 l1_0.length c1_0) := sC BK102 0 rfl; have hcz19_1 : w16.cell? ⟨gb102, 1, none⟩ = some (.slice A1_1 l1_1.length c1_1) := sC BK102 1 rfl; have hfz19_0 := blk_frozen BK102.out 0; have hfz19_1 := blk_frozen BK102.out 1) | ((with_reducible refine gate_callee (f := 51) rfl ?_); refine goesL_ (some 9) rfl rfl Try.func51 (by kernel_rfl) rfl #[.slice A0_0 l0_0.length c0_0, .slice A1_0 l1_0.length c1_0] rfl (by (try simp only [List.map_toArray, List.map_cons, List.map_nil]); first | done | rfl | (simp only [List.length_drop, List.length_take]; rfl)) ?_; (with_reducible refine (laws_eqBlockS.calls k _ _ l0_0 _ _ l1_0 true _ ?side1 ?side2 ?side3 ?side4 A3.out).mono ?_); (case side1 => repeat (first | exact (Kd.C_below HR0_0.out HB.out) | (with_reducible refine Kd.C_alloc ?_ _) | (with_reducible refine Kd.C_drewN ?_ _) | (with_reducible refine Kd.C_drew ?_))); (case side2 => exact HC0_0.out); (case side3 => repeat (first | exact (Kd.C_below HR1_0.out HB.out) | (with_reducible refine Kd.C_alloc ?_ _) | (with_reducible refine Kd.C_drewN ?_ _) | (with_reducible refine Kd.C_drew ?_))); (case side4 => exact HC1_0.out); rintro e w20 ⟨rfl, hb⟩; refine ⟨_, rfl, ?_⟩; have n0_ := sA (blk_below (sB BK101.out) hb); have n1_ := sA (blk_below (sB BK102.out) hb); have n2_ := sA (below_step (by repeat (first | (with_reducible first | exact HB.out | apply sLA | apply sLN | apply sLD | refine sLS ?_ (Aside0.out (by assumption))) | exact HB.out)) hb); clear BK101; clear BK102; clear HB; have BK101 := n0_; have BK102 := n1_; have HB := n2_; clear n0_ n1_ n2_; (try clear hb); (try clear hb2); (try clear hk); (try clear hi); have hcz21_0 : w20.cell? ⟨gb101, 0, none⟩ = some (.slice A0_0 l0_0.length c0_0) := sC BK101 0 rfl; have hcz21_1 : w20.cell? ⟨gb101, 1, none⟩ = some (.slice A0_1 l0_1.length c0_1) := sC BK101 1 rfl; have hfz21_0 := blk_frozen BK101.out 0; have hfz21_1 := blk_frozen BK101.out 1; have hcz22_0 : w20.cell? ⟨gb102, 0, none⟩ = some (.slice A1_0 l1_0.length c1_0) := sC BK102 0 rfl; have hcz22_1 : w20.cell? ⟨gb102, 1, none⟩ = some (.slice A1_1 l1_1.length c1_1) := sC BK102 1 rfl; have hfz22_0 := blk_frozen BK102.out 0; have hfz22_1 := blk_frozen BK102.out 1) | ((with_reducible refine gate_callee (f := 52) rfl ?_); refine goesL_ (some 15) rfl rfl Try.func52 (by kernel_rfl) rfl #[.slice A0_1 l0_1.length c0_1, .slice A1_1 l1_1.length c1_1] rfl (by (try simp only [List.map_toArray, List.map_cons, List.map_nil]); first | done | rfl | (simp only [List.length_drop, List.length_take]; rfl)) ?_; (with_reducible refine (laws_eqIntS.calls k _ _ l0_1 _ _ l1_1 false _ ?side1 ?side2 ?side3 ?side4 A5.out).mono ?_); (case side1 => repeat (first | exact (Kd.C_below HR0_1.out HB.out) | (with_reducible refine Kd.C_alloc ?_ _) | (with_reducible refine Kd.C_drewN ?_ _) | (with_reducible refine Kd.C_drew ?_))); (case side2 => exact HC0_1.out); (case side3 => repeat (first | exact (Kd.C_below HR1_1.out HB.out) | (with_reducible refine Kd.C_alloc ?_ _) | (with_reducible refine Kd.C_drewN ?_ _) | (with_reducible refine Kd.C_drew ?_))); (case side4 => exact HC1_1.out); rintro e w' ⟨rfl, ⟨nd, rfl⟩⟩; refine ⟨_, rfl, ?_⟩))
   go_ret
   exact ⟨by first | rfl | (simp [errW_none, errW_some] <;> rfl) | (simp [*, errW_none, errW_some] <;> rfl), by repeat (first | (with_reducible first | exact HB.out | apply sLA | apply sLN | apply sLD | refine sLS ?_ GE101.out | refine sLS ?_ GE102.out) | exact HB.out)⟩
 ·replace c4 := Bool.eq_false_iff.mpr c4
  subst c4
  have H1 : (some false) = some r := by rw [if_neg (show ¬ (false = true) by decide)] at H; exact H
  clear H
  have H := H1
  clear H1
  obtain rfl := Option.some.inj H
  go_enter Try.func24, Try.ntmps24
  go_wp2_with (first | ((with_reducible refine gate_dst (N := 2) rfl ?_); refine box_event ?hg (N := 2) ?hd (cs := #[.slice A0_0 l0_0.length c0_0, .slice A0_1 l0_1.length c0_1]) (t := 54) ?hr ?_; (case hd => rfl); (case hg => rfl); (case hr => first | (go_simp; done) | (go_simp; rfl)); intro gb101 hg w23 hbox hb; have n0_ := sA (below_step (by repeat (first | (with_reducible first | exact HB.out | apply sLA | apply sLN | apply sLD) | exact HB.out)) hb); have n1_ := sA (hbox); have n2_ := sA ((by rw [hg]; exact (below_size (by repeat (first | (with_reducible first | exact HB.out | apply sLA | apply sLN | apply sLD) | exact HB.out))) : w.heap.size ≤ gb101)); have n3_ := sA ((by rw [hg]; exact (below_size (by repeat (first | (with_reducible first | exact HB.out | apply sLA | apply sLN | apply sLD) | exact HB.out))) : w.heap.size ≤ gb101)); clear HB; have HB := n0_; have BK101 := n1_; have GW101 := n2_; have GE101 := n3_; clear n0_ n1_ n2_ n3_; clear hb hbox hg) | ((with_reducible refine gate_dst (N := 3) rfl ?_); refine box_event ?hg (N := 3) ?hd (cs := #[.slice A1_0 l1_0.length c1_0, .slice A1_1 l1_1.length c1_1]) (t := 54) ?hr ?_; (case hd => rfl); (case hg => rfl); (case hr => first | (go_simp; done) | (go_simp; rfl)); intro gb102 hg w24 hbox hb; have n0_ := sA (blk_below (sB BK101.out) hb); have n1_ := sA (below_step (by repeat (first | (with_reducible first | exact HB.out | apply sLA | apply sLN | apply sLD | refine sLS ?_ GE101.out) | exact HB.out)) hb); have n2_ := sA (hbox); have n3_ := sA ((by rw [hg]; exact (below_size (by repeat (first | (with_reducible first | exact HB.out | apply sLA | apply sLN | apply sLD | refine sLS ?_ GE101.out) | exact HB.out))) : w.heap.size ≤ gb102)); have n4_ := sA ((by rw [hg]; exact (below_size (by repeat (first | (with_reducible first | exact HB.out | apply sLA | apply sLN | apply sLD | refine sLS ?_ GE101.out) | exact HB.out))) : w.heap.size ≤ gb102)); have n5_ := sA ((by rw [hg]; exact Nat.ne_of_lt (blk_lt (sB BK101.out)) : gb101 ≠ gb102)); have n6_ := sA ((by rw [hg]; exact Nat.ne_of_gt (blk_lt (sB BK101.out)) : gb102 ≠ gb101)); clear BK101; clear HB; have BK101 := n0_; have HB := n1_; have BK102 := n2_; have GW102 := n3_; have GE102 := n4_; have NB101_102 := n5_; have NB102_101 := n6_; clear n0_ n1_ n2_ n3_ n4_ n5_ n6_; clear hb hbox hg; have hnb25 := NB101_102.out; have hnc25 := NB102_101.out; have hcz26_0 : w24.cell? ⟨gb101, 0, none⟩ = some (.slice A0_0 l0_0.length c0_0) := sC BK101 0 rfl; have hcz26_1 : w24.cell? ⟨gb101, 1, none⟩ = some (.slice A0_1 l0_1.length c0_1) := sC BK101 1 rfl; have hfz26_0 := blk_frozen BK101.out 0; have hfz26_1 := blk_frozen BK101.out 1; have hcz27_0 : w24.cell? ⟨gb102, 0, none⟩ = some (.slice A1_0 l1_0.length c1_0) := sC BK102 0 rfl; have hcz27_1 : w24.cell? ⟨gb102, 1, none⟩ = some (.slice A1_1 l1_1.length c1_1) := sC BK102 1 rfl; have hfz27_0 := blk_frozen BK102.out 0; have hfz27_1 := blk_frozen BK102.out 1) | ((with_reducible refine gate_callee (f := 51) rfl ?_); refine goesL_ (some 9) rfl rfl Try.func51 (by kernel_rfl) rfl #[.slice A0_0 l0_0.length c0_0, .slice A1_0 l1_0.length c1_0] rfl (by (try simp only [List.map_toArray, List.map_cons, List.map_nil]); first | done | rfl | (simp only [List.length_drop, List.length_take]; rfl)) ?_; (with_reducible refine (laws_eqBlockS.calls k _ _ l0_0 _ _ l1_0 false _ ?side1 ?side2 ?side3 ?side4 A3.out).mono ?_); (case side1 => repeat (first | exact (Kd.C_below HR0_0.out HB.out) | (with_reducible refine Kd.C_alloc ?_ _) | (with_reducible refine Kd.C_drewN ?_ _) | (with_reducible refine Kd.C_drew ?_))); (case side2 => exact HC0_0.out); (case side3 => repeat (first | exact (Kd.C_below HR1_0.out HB.out) | (with_reducible refine Kd.C_alloc ?_ _) | (with_reducible refine Kd.C_drewN ?_ _) | (with_reducible refine Kd.C_drew ?_))); (case side4 => exact HC1_0.out); rintro e w28 ⟨rfl, hb⟩; refine ⟨_, rfl, ?_⟩; have n0_ := sA (blk_below (sB BK101.out) hb); have n1_ := sA (blk_below (sB BK102.out) hb); have n2_ := sA (below_step (by repeat (first | (with_reducible first | exact HB.out | apply sLA | apply sLN | apply sLD | refine sLS ?_ (Aside0.out (by assumption))) | exact HB.out)) hb); clear BK101; clear BK102; clear HB; have BK101 := n0_; have BK102 := n1_; have HB := n2_; clear n0_ n1_ n2_; (try clear hb); (try clear hb2); (try clear hk); (try clear hi)))
  go_ret
  exact ⟨by first | rfl | (simp [errW_none, errW_some] <;> rfl) | (simp [*, errW_none, errW_some] <;> rfl), by repeat (first | (with_reducible first | exact HB.out | apply sLA | apply sLN | apply sLD | refine sLS ?_ GE101.out | refine sLS ?_ GE102.out) | exact HB.out)⟩

end Go.Proofs.Ytenefihoegkliaa.P

namespace Go.Proofs.Ytenefihoegkliaa.P
open Go.RowKit Go.Proofs.YtenefihoegkliaaW.PrintWords Go.Proofs.YtenefihoegkliaaW.PrintLast Go.Proofs.YtenefihoegkliaaW.PrintMore
attribute [local go_sem] max2_int min2_int max_two min_two max_three min_three max_four min_four
set_option linter.unusedVariables false
set_option linter.unusedSimpArgs false

/-! ### laws_FnExactGoodStore: function 6 -/
def laws_FnExactGoodStore.f (k : Nat) (l0_0 : List (S24)) (l0_1 : List Int) : Option (Bool) := (laws_szStore.f k l0_0 l0_1 1048576).bind fun t102 => (if t102 < 0 then (some true) else ((laws_toStore.f k l0_0 l0_1).bind fun bt103 => ((spec_GoodStore.f k bt103.1 bt103.2).bind fun t109 => ((laws_toStore.f k l0_0 l0_1).bind fun bt110 => ((impl_GoodStore.f k bt110.1 bt110.2).bind fun t117 => (if (t117 != t109) = true then (some false) else ((laws_toStore.f k l0_0 l0_1).bind fun bt118 => ((laws_eqStore.f k bt110.1 bt110.2 bt118.1 bt118.2).bind fun t124 => (if t124 = true then (some true) else (some false))))))))))
theorem laws_FnExactGoodStore.mono : ∀ a0 a1 k, LeO (laws_FnExactGoodStore.f k a0 a1) (laws_FnExactGoodStore.f (k + 1) a0 a1) := by
  intro a0 a1 k
  unfold laws_FnExactGoodStore.f
  repeat' first
      | (with_reducible exact impl_GoodStore.mono _ _ _)
      | (with_reducible exact laws_eqStore.mono _ _ _ _ _)
      | (with_reducible exact laws_szStore.mono _ _ _ _)
      | (with_reducible exact laws_toStore.mono _ _ _)
      | (with_reducible exact spec_GoodStore.mono _ _ _)
      | (with_reducible exact LeO.refl _)
      | (with_reducible exact LeO.none _)
      | (with_reducible refine LeO.ite ?_ ?_)
      | (with_reducible refine LeO.bind ?_ (fun _ => ?_))
      | exact impl_GoodStore.mono _ _ _
      | exact laws_eqStore.mono _ _ _ _ _
      | exact laws_szStore.mono _ _ _ _
      | exact laws_toStore.mono _ _ _
      | exact spec_GoodStore.mono _ _ _
      | exact LeO.none _
      | refine LeO.ite ?_ ?_
      | refine LeO.bind ?_ (fun _ => ?_)
set_option maxHeartbeats 8000000 in
set_option maxRecDepth 100000 in
theorem laws_FnExactGoodStore.calls (k : Nat) (A0_0 : Option Addr) (c0_0 : Nat) (l0_0 : List (S24)) (A0_1 : Option Addr) (c0_1 : Nat) (l0_1 : List Int) (r : Bool) (w : World) (hr0_0 : Kd.C k24 w A0_0 l0_0.length l0_0) (hc0_0 : l0_0.length ≤ c0_0) (hr0_1 : Kd.C (Kd.int .i64) w A0_1 l0_1.length l0_1) (hc0_1 : l0_1.length ≤ c0_1) (h : laws_FnExactGoodStore.f k l0_0 l0_1 = some r) (hr_ : r = true := by rfl) :
  Calls Try.prog 6 #[.agg #[.slice A0_0 l0_0.length c0_0, .slice A0_1 l0_1.length c0_1]] w fun e w' => e = .returned (.bool r) ∧ Below w.heap.size w w' := by
 have hu49 := Try.underlying49
 have hu54 := Try.underlying54
 have HR0_0 := sA hr0_0
 have HC0_0 := sA hc0_0
 clear hr0_0 hc0_0
 have HR0_1 := sA hr0_1
 have HC0_1 := sA hc0_1
 clear hr0_1 hc0_1
 have HB := sA (Below.refl w.heap.size w)
 have H : ((laws_szStore.f k l0_0 l0_1 1048576).bind fun t102 => (if t102 < 0 then (some true) else ((laws_toStore.f k l0_0 l0_1).bind fun bt103 => ((spec_GoodStore.f k bt103.1 bt103.2).bind fun t109 => ((laws_toStore.f k l0_0 l0_1).bind fun bt110 => ((impl_GoodStore.f k bt110.1 bt110.2).bind fun t117 => (if (t117 != t109) = true then (some false) else ((laws_toStore.f k l0_0 l0_1).bind fun bt118 => ((laws_eqStore.f k bt110.1 bt110.2 bt118.1 bt118.2).bind fun t124 => (if t124 = true then (some true) else (some false))))))))))) = some r := h
 clear h
 replace H := Option.bind_eq_some_iff.mp H
 obtain ⟨t102, A20, H⟩ := H
 replace H : (if t102 < 0 then (some true) else ((laws_toStore.f k l0_0 l0_1).bind fun bt103 => ((spec_GoodStore.f k bt103.1 bt103.2).bind fun t109 => ((laws_toStore.f k l0_0 l0_1).bind fun bt110 => ((impl_GoodStore.f k bt110.1 bt110.2).bind fun t117 => (if (t117 != t109) = true then (some false) else ((laws_toStore.f k l0_0 l0_1).bind fun bt118 => ((laws_eqStore.f k bt110.1 bt110.2 bt118.1 bt118.2).bind fun t124 => (if t124 = true then (some true) else (some false)))))))))) = some r := H
 have A2 := sA A20
 clear A20
 by_cases c3 : t102 < 0
 ·rw [if_pos c3] at H
  have c3b0 : decide (t102 < 0) = true := decide_eq_true c3
  clear c3
  obtain rfl := Option.some.inj H
  go_enter Try.func6, Try.ntmps6
  go_wp2_with (first | ((with_reducible refine gate_dst (N := 1) rfl ?_); refine box_event ?hg (N := 1) ?hd (cs := #[.slice A0_0 l0_0.length c0_0, .slice A0_1 l0_1.length c0_1]) (t := 49) ?hr ?_; (case hd => rfl); (case hg => rfl); (case hr => first | (go_simp; done) | (go_simp; rfl)); intro gb101 hg w4 hbox hb; have n0_ := sA (below_step (by repeat (first | (with_reducible first | exact HB.out | apply sLA | apply sLN | apply sLD) | exact HB.out)) hb); have n1_ := sA (hbox); have n2_ := sA ((by rw [hg]; exact (below_size (by repeat (first | (with_reducible first | exact HB.out | apply sLA | apply sLN | apply sLD) | exact HB.out))) : w.heap.size ≤ gb101)); have n3_ := sA ((by rw [hg]; exact (below_size (by repeat (first | (with_reducible first | exact HB.out | apply sLA | apply sLN | apply sLD) | exact HB.out))) : w.heap.size ≤ gb101)); clear HB; have HB := n0_; have BK101 := n1_; have GW101 := n2_; have GE101 := n3_; clear n0_ n1_ n2_ n3_; clear hb hbox hg; have hcz5_0 : w4.cell? ⟨gb101, 0, none⟩ = some (.slice A0_0 l0_0.length c0_0) := sC BK101 0 rfl; have hcz5_1 : w4.cell? ⟨gb101, 1, none⟩ = some (.slice A0_1 l0_1.length c0_1) := sC BK101 1 rfl; have hfz5_0 := blk_frozen BK101.out 0; have hfz5_1 := blk_frozen BK101.out 1) | ((with_reducible refine gate_callee (f := 20) rfl ?_); refine goesL_ (some 9) rfl rfl Try.func20 (by kernel_rfl) rfl #[.agg #[.slice A0_0 l0_0.length c0_0, .slice A0_1 l0_1.length c0_1], .int .i64 1048576] rfl (by (try simp only [List.map_toArray, List.map_cons, List.map_nil]); first | done | rfl | (simp only [List.length_drop, List.length_take]; rfl)) ?_; (with_reducible refine (laws_szStore.calls k _ _ l0_0 _ _ l0_1 1048576 t102 _ ?side1 ?side2 ?side3 ?side4 A2.out).mono ?_); (case side1 => repeat (first | exact (Kd.C_below HR0_0.out HB.out) | (with_reducible refine Kd.C_alloc ?_ _) | (with_reducible refine Kd.C_drewN ?_ _) | (with_reducible refine Kd.C_drew ?_))); (case side2 => exact HC0_0.out); (case side3 => repeat (first | exact (Kd.C_below HR0_1.out HB.out) | (with_reducible refine Kd.C_alloc ?_ _) | (with_reducible refine Kd.C_drewN ?_ _) | (with_reducible refine Kd.C_drew ?_))); (case side4 => exact HC0_1.out); rintro e w6 ⟨rfl, hb⟩; refine ⟨_, rfl, ?_⟩; have n0_ := sA (blk_below (sB BK101.out) hb); have n1_ := sA (below_step (by repeat (first | (with_reducible first | exact HB.out | apply sLA | apply sLN | apply sLD | refine sLS ?_ GE101.out) | exact HB.out)) hb); clear BK101; clear HB; have BK101 := n0_; have HB := n1_; clear n0_ n1_; (try clear hb); (try clear hb2); (try clear hk); (try clear hi)))
  go_ret
  exact ⟨by first | rfl | (simp [errW_none, errW_some] <;> rfl) | (simp [*, errW_none, errW_some] <;> rfl), by repeat (first | (with_reducible first | exact HB.out | apply sLA | apply sLN | apply sLD | refine sLS ?_ GE101.out) | exact HB.out)⟩
 ·rw [if_neg c3] at H
  have c3b0 : decide (t102 < 0) = false := decide_eq_false c3
  clear c3
  replace H := Option.bind_eq_some_iff.mp H
  obtain ⟨⟨t103, t106⟩, A70, H⟩ := H
  replace H : ((spec_GoodStore.f k t103 t106).bind fun t109 => ((laws_toStore.f k l0_0 l0_1).bind fun bt110 => ((impl_GoodStore.f k bt110.1 bt110.2).bind fun t117 => (if (t117 != t109) = true then (some false) else ((laws_toStore.f k l0_0 l0_1).bind fun bt118 => ((laws_eqStore.f k bt110.1 bt110.2 bt118.1 bt118.2).bind fun t124 => (if t124 = true then (some true) else (some false)))))))) = some r := H
  have A7 := sA A70
  clear A70
  replace H := Option.bind_eq_some_iff.mp H
  obtain ⟨t109, A80, H⟩ := H
  replace H : ((laws_toStore.f k l0_0 l0_1).bind fun bt110 => ((impl_GoodStore.f k bt110.1 bt110.2).bind fun t117 => (if (t117 != t109) = true then (some false) else ((laws_toStore.f k l0_0 l0_1).bind fun bt118 => ((laws_eqStore.f k bt110.1 bt110.2 bt118.1 bt118.2).bind fun t124 => (if t124 = true then (some true) else (some false))))))) = some r := H
  have A8 := sA A80
  clear A80
  replace H := Option.bind_eq_some_iff.mp H
  obtain ⟨⟨t110, t113⟩, A90, H⟩ := H
  replace H : ((impl_GoodStore.f k t110 t113).bind fun t117 => (if (t117 != t109) = true then (some false) else ((laws_toStore.f k l0_0 l0_1).bind fun bt118 => ((laws_eqStore.f k t110 t113 bt118.1 bt118.2).bind fun t124 => (if t124 = true then (some true) else (some false)))))) = some r := H
  have A9 := sA A90
  clear A90
  replace H := Option.bind_eq_some_iff.mp H
  obtain ⟨t117, A100, H⟩ := H
  replace H : (if (t117 != t109) = true then (some false) else ((laws_toStore.f k l0_0 l0_1).bind fun bt118 => ((laws_eqStore.f k t110 t113 bt118.1 bt118.2).bind fun t124 => (if t124 = true then (some true) else (some false))))) = some r := H
  have A10 := sA A100
  clear A100
  by_cases c11 : (t117 != t109) = true
  ·rw [if_pos c11] at H
   have c11b0 : (t117 != t109) = true := c11
   (try (have c11b1 : decide (t117 = t109) = false := by simpa using c11))
   (try (have c11b2 : (t117 == t109) = false := by simpa using c11))
   (try (have c11b3 : ¬ (t117 = t109) := by simpa using c11))
   clear c11
   exact absurd (hr_.symm.trans (Option.some.inj H).symm) (by decide)
  ·rw [if_neg c11] at H
   have c11b0 : (t117 != t109) = false := by simpa using c11
   (try (have c11b1 : decide (t117 = t109) = true := by simpa using c11))
   (try (have c11b2 : (t117 == t109) = true := by simpa using c11))
   clear c11
   replace H := Option.bind_eq_some_iff.mp H
   obtain ⟨⟨t118, t121⟩, A280, H⟩ := H
   replace H : ((laws_eqStore.f k t110 t113 t118 t121).bind fun t124 => (if t124 = true then (some true) else (some false))) = some r := H
   have A28 := sA A280
   clear A280
   replace H := Option.bind_eq_some_iff.mp H
   obtain ⟨t124, A290, H⟩ := H
   replace H : (if t124 = true then (some true) else (some false)) = some r := H
   have A29 := sA A290
   clear A290
   by_cases c30 : t124 = true
   ·subst c30
    have H1 : (some true) = some r := by rw [if_pos rfl] at H; exact H
    clear H
    have H := H1
    clear H1
    obtain rfl := Option.some.inj H
    go_enter Try.func6, Try.ntmps6
    try go_wp2_with (first | ((with_reducible refine gate_dst (N := 1) rfl ?_); refine box_event ?hg (N := 1) ?hd (cs := #[.slice A0_0 l0_0.length c0_0, .slice A0_1 l0_1.length c0_1]) (t := 49) ?hr ?_; (case hd => rfl); (case hg => rfl); (case hr => first | (go_simp; done) | (go_simp; rfl)); intro gb101 hg w31 hbox hb; have n0_ := sA (below_step (by repeat (first | (with_reducible first | exact HB.out | apply sLA | apply sLN | apply sLD) | exact HB.out)) hb); have n1_ := sA (hbox); have n2_ := sA ((by rw [hg]; exact (below_size (by repeat (first | (with_reducible first | exact HB.out | apply sLA | apply sLN | apply sLD) | exact HB.out))) : w.heap.size ≤ gb101)); have n3_ := sA ((by rw [hg]; exact (below_size (by repeat (first | (with_reducible first | exact HB.out | apply sLA | apply sLN | apply sLD) | exact HB.out))) : w.heap.size ≤ gb101)); clear HB; have HB := n0_; have BK101 := n1_; have GW101 := n2_; have GE101 := n3_; clear n0_ n1_ n2_ n3_; clear hb hbox hg; have hcz32_0 : w31.cell? ⟨gb101, 0, none⟩ = some (.slice A0_0 l0_0.length c0_0) := sC BK101 0 rfl; have hcz32_1 : w31.cell? ⟨gb101, 1, none⟩ = some (.slice A0_1 l0_1.length c0_1) := sC BK101 1 rfl; have hfz32_0 := blk_frozen BK101.out 0; have hfz32_1 := blk_frozen BK101.out 1) | ((with_reducible refine gate_callee (f := 20) rfl ?_); refine goesL_ (some 9) rfl rfl Try.func20 (by kernel_rfl) rfl #[.agg #[.slice A0_0 l0_0.length c0_0, .slice A0_1 l0_1.length c0_1], .int .i64 1048576] rfl (by (try simp only [List.map_toArray, List.map_cons, List.map_nil]); first | done | rfl | (simp only [List.length_drop, List.length_take]; rfl)) ?_; (with_reducible refine (laws_szStore.calls k _ _ l0_0 _ _ l0_1 1048576 t102 _ ?side1 ?side2 ?side3 ?side4 A2.out).mono ?_); (case side1 => repeat (first | exact (Kd.C_below HR0_0.out HB.out) | (with_reducible refine Kd.C_alloc ?_ _) | (with_reducible refine Kd.C_drewN ?_ _) | (with_reducible refine Kd.C_drew ?_))); (case side2 => exact HC0_0.out); (case side3 => repeat (first | exact (Kd.C_below HR0_1.out HB.out) | (with_reducible refine Kd.C_alloc ?_ _) | (with_reducible refine Kd.C_drewN ?_ _) | (with_reducible refine Kd.C_drew ?_))); (case side4 => exact HC0_1.out); rintro e w33 ⟨rfl, hb⟩; refine ⟨_, rfl, ?_⟩; have n0_ := sA (blk_below (sB BK101.out) hb); have n1_ := sA (below_step (by repeat (first | (with_reducible first | exact HB.out | apply sLA | apply sLN | apply sLD | refine sLS ?_ GE101.out) | exact HB.out)) hb); clear BK101; clear HB; have BK101 := n0_; have HB := n1_; clear n0_ n1_; (try clear hb); (try clear hb2); (try clear hk); (try clear hi); have hcz34_0 : w33.cell? ⟨gb101, 0, none⟩ = some (.slice A0_0 l0_0.length c0_0) := sC BK101 0 rfl; have hcz34_1 : w33.cell? ⟨gb101, 1, none⟩ = some (.slice A0_1 l0_1.length c0_1) := sC BK101 1 rfl; have hfz34_0 := blk_frozen BK101.out 0; have hfz34_1 := blk_frozen BK101.out 1) | ((with_reducible refine gate_callee (f := 22) rfl ?_); refine goesL_ (some 13) rfl rfl Try.func22 (by kernel_rfl) rfl #[.agg #[.slice A0_0 l0_0.length c0_0, .slice A0_1 l0_1.length c0_1]] rfl (by (try simp only [List.map_toArray, List.map_cons, List.map_nil]); first | done | rfl | (simp only [List.length_drop, List.length_take]; rfl)) ?_; (with_reducible refine (laws_toStore.calls k _ _ l0_0 _ _ l0_1 t103 t106 _ ?side1 ?side2 ?side3 ?side4 A7.out).mono ?_); (case side1 => repeat (first | exact (Kd.C_below HR0_0.out HB.out) | (with_reducible refine Kd.C_alloc ?_ _) | (with_reducible refine Kd.C_drewN ?_ _) | (with_reducible refine Kd.C_drew ?_))); (case side2 => exact HC0_0.out); (case side3 => repeat (first | exact (Kd.C_below HR0_1.out HB.out) | (with_reducible refine Kd.C_alloc ?_ _) | (with_reducible refine Kd.C_drewN ?_ _) | (with_reducible refine Kd.C_drew ?_))); (case side4 => exact HC0_1.out); rintro e w35 ⟨v104, v107, rfl, ho0, ho1, hb⟩; refine ⟨_, rfl, ?_⟩; have n0_ := sA (Kd.S_lower ho0 (below_size (by repeat (first | (with_reducible first | exact HB.out | apply sLA | apply sLN | apply sLD | refine sLS ?_ GE101.out) | exact HB.out)))); have n1_ := sA (Kd.R_lower ho1 (below_size (by repeat (first | (with_reducible first | exact HB.out | apply sLA | apply sLN | apply sLD | refine sLS ?_ GE101.out) | exact HB.out)))); have n2_ := sA (blk_below (sB BK101.out) hb); have n3_ := sA (below_step (by repeat (first | (with_reducible first | exact HB.out | apply sLA | apply sLN | apply sLD | refine sLS ?_ GE101.out) | exact HB.out)) hb); clear BK101; clear HB; have HO105 := n0_; have HO108 := n1_; have BK101 := n2_; have HB := n3_; clear n0_ n1_ n2_ n3_; (try clear hb); (try clear hb2); (try clear hk); (try clear hi); (try clear ho0); (try clear ho1); obtain ⟨Ao36, co36, eo36⟩ := Kd.S_slice HO105.out; subst eo36; obtain ⟨Ao37, co37, eo37⟩ := Kd.R_slice HO108.out; subst eo37) | ((with_reducible refine gate_callee (f := 21) rfl ?_); refine goesL_ (some 14) rfl rfl Try.func21 (by kernel_rfl) rfl #[.agg #[.slice Ao36 t103.length co36, .slice Ao37 t106.length co37]] rfl (by (try simp only [List.map_toArray, List.map_cons, List.map_nil]); first | done | rfl | (simp only [List.length_drop, List.length_take]; rfl)) ?_; (with_reducible refine (spec_GoodStore.calls k _ _ t103 _ _ t106 t109 _ ?side1 ?side2 ?side3 ?side4 A8.out).mono ?_); (case side1 => repeat (first | exact (Kd.S_reads' HO105.out).2.2 | (with_reducible refine Kd.C_alloc ?_ _) | (with_reducible refine Kd.C_drewN ?_ _) | (with_reducible refine Kd.C_drew ?_))); (case side2 => exact (Kd.S_reads' HO105.out).2.1); (case side3 => repeat (first | exact (Kd.R_reads' HO108.out).2.2 | (with_reducible refine Kd.C_alloc ?_ _) | (with_reducible refine Kd.C_drewN ?_ _) | (with_reducible refine Kd.C_drew ?_))); (case side4 => exact (Kd.R_reads' HO108.out).2.1); rintro e w38 ⟨rfl, hb⟩; refine ⟨_, rfl, ?_⟩; have n0_ := sA (Kd.S_below (by (with_reducible repeat (first | apply Kd.S_alloc | apply Kd.S_drewN | apply Kd.S_drew)); exact HO105.out) hb); have n1_ := sA (Kd.R_below (sR HO108.out) hb); have n2_ := sA (blk_below (sB BK101.out) hb); have n3_ := sA (below_step (by repeat (first | (with_reducible first | exact HB.out | apply sLA | apply sLN | apply sLD | refine sLS ?_ GE101.out) | exact HB.out)) hb); clear HO105; clear HO108; clear BK101; clear HB; have HO105 := n0_; have HO108 := n1_; have BK101 := n2_; have HB := n3_; clear n0_ n1_ n2_ n3_; (try clear hb); (try clear hb2); (try clear hk); (try clear hi); have hcz39_0 : w38.cell? ⟨gb101, 0, none⟩ = some (.slice A0_0 l0_0.length c0_0) := sC BK101 0 rfl; have hcz39_1 : w38.cell? ⟨gb101, 1, none⟩ = some (.slice A0_1 l0_1.length c0_1) := sC BK101 1 rfl; have hfz39_0 := blk_frozen BK101.out 0; have hfz39_1 := blk_frozen BK101.out 1) | ((with_reducible refine gate_callee (f := 22) rfl ?_); refine goesL_ (some 16) rfl rfl Try.func22 (by kernel_rfl) rfl #[.agg #[.slice A0_0 l0_0.length c0_0, .slice A0_1 l0_1.length c0_1]] rfl (by (try simp only [List.map_toArray, List.map_cons, List.map_nil]); first | done | rfl | (simp only [List.length_drop, List.length_take]; rfl)) ?_; (with_reducible refine (laws_toStore.calls k _ _ l0_0 _ _ l0_1 t110 t113 _ ?side1 ?side2 ?side3 ?side4 A9.out).mono ?_); (case side1 => repeat (first | exact (Kd.C_below HR0_0.out HB.out) | (with_reducible refine Kd.C_alloc ?_ _) | (with_reducible refine Kd.C_drewN ?_ _) | (with_reducible refine Kd.C_drew ?_))); (case side2 => exact HC0_0.out); (case side3 => repeat (first | exact (Kd.C_below HR0_1.out HB.out) | (with_reducible refine Kd.C_alloc ?_ _) | (with_reducible refine Kd.C_drewN ?_ _) | (with_reducible refine Kd.C_drew ?_))); (case side4 => exact HC0_1.out); rintro e w40 ⟨v111, v114, rfl, ho0, ho1, hb⟩; refine ⟨_, rfl, ?_⟩; have n0_ := sA (Kd.S_elder' (by (with_reducible repeat (first | apply Kd.S_alloc | apply Kd.S_drewN | apply Kd.S_drew)); exact HO105.out) (Kd.S_base ho0) hb); have n1_ := sA (Kd.R_elder' (sR HO108.out) (Kd.R_base ho1) hb); have n2_ := sA (Kd.S_lower (Kd.S_new' ho0 (Kd.S_lt (by (with_reducible repeat (first | apply Kd.S_alloc | apply Kd.S_drewN | apply Kd.S_drew)); exact HO105.out))) (below_size (by repeat (first | (with_reducible first | exact HB.out | apply sLA | apply sLN | apply sLD | refine sLS ?_ GE101.out) | exact HB.out)))); have n3_ := sA (Kd.R_lower (Kd.R_new' ho1 (Kd.R_lt (sR HO108.out))) (below_size (by repeat (first | (with_reducible first | exact HB.out | apply sLA | apply sLN | apply sLD | refine sLS ?_ GE101.out) | exact HB.out)))); have n4_ := sA (blk_below (sB BK101.out) hb); have n5_ := sA (below_step (by repeat (first | (with_reducible first | exact HB.out | apply sLA | apply sLN | apply sLD | refine sLS ?_ GE101.out) | exact HB.out)) hb); clear HO105; clear HO108; clear BK101; clear HB; have HO105 := n0_; have HO108 := n1_; have HO112 := n2_; have HO115 := n3_; have BK101 := n4_; have HB := n5_; clear n0_ n1_ n2_ n3_ n4_ n5_; (try clear hb); (try clear hb2); (try clear hk); (try clear hi); (try clear ho0); (try clear ho1)) | ((with_reducible refine gate_dst (N := 5) rfl ?_); refine box_event ?hg (N := 5) ?hd (cs := #[.slice none 0 0, .slice none 0 0]) (t := 54) ?hr ?_; (case hd => rfl); (case hg => rfl); (case hr => first | (go_simp; done) | (go_simp; rfl)); intro gb116 hg w41 hbox hb; have n0_ := sA (Kd.S_below (by (with_reducible repeat (first | apply Kd.S_alloc | apply Kd.S_drewN | apply Kd.S_drew)); exact HO105.out) hb); have n1_ := sA (Kd.R_below (sR HO108.out) hb); have n2_ := sA (Kd.S_below (by (with_reducible repeat (first | apply Kd.S_alloc | apply Kd.S_drewN | apply Kd.S_drew)); exact HO112.out) hb); have n3_ := sA (Kd.R_below (sR HO115.out) hb); have n4_ := sA (blk_below (sB BK101.out) hb); have n5_ := sA (below_step (by repeat (first | (with_reducible first | exact HB.out | apply sLA | apply sLN | apply sLD | refine sLS ?_ GE101.out) | exact HB.out)) hb); have n6_ := sA (hbox); have n7_ := sA ((by rw [hg]; exact (below_size (by repeat (first | (with_reducible first | exact HB.out | apply sLA | apply sLN | apply sLD | refine sLS ?_ GE101.out) | exact HB.out))) : w.heap.size ≤ gb116)); have n8_ := sA ((by rw [hg]; exact (below_size (by repeat (first | (with_reducible first | exact HB.out | apply sLA | apply sLN | apply sLD | refine sLS ?_ GE101.out) | exact HB.out))) : w.heap.size ≤ gb116)); have n9_ := sA ((by rw [hg]; exact Nat.ne_of_lt (blk_lt (sB BK101.out)) : gb101 ≠ gb116)); have n10_ := sA ((by rw [hg]; exact Nat.ne_of_gt (blk_lt (sB BK101.out)) : gb116 ≠ gb101)); clear HO105; clear HO108; clear HO112; clear HO115; clear BK101; clear HB; have HO105 := n0_; have HO108 := n1_; have HO112 := n2_; have HO115 := n3_; have BK101 := n4_; have HB := n5_; have BK116 := n6_; have GW116 := n7_; have GE116 := n8_; have NB101_116 := n9_; have NB116_101 := n10_; clear n0_ n1_ n2_ n3_ n4_ n5_ n6_ n7_ n8_ n9_ n10_; clear hb hbox hg; obtain ⟨Ao42, co42, eo42⟩ := Kd.S_slice HO112.out; subst eo42; have hnb43 := NB116_101.out; have hnc43 := NB101_116.out; have hcz44_0 : w41.cell? ⟨gb116, 0, none⟩ = some (.slice none 0 0) := sC BK116 0 rfl; have hcz44_1 : w41.cell? ⟨gb116, 1, none⟩ = some (.slice none 0 0) := sC BK116 1 rfl; have hfz44_0 := blk_frozen BK116.out 0; have hfz44_1 := blk_frozen BK116.out 1; obtain ⟨Ao45, co45, eo45⟩ := Kd.R_slice HO115.out; subst eo45) | ((with_reducible refine gate_callee (f := 23) rfl ?_); refine goesL_ (some 18) rfl rfl Try.func23 (by kernel_rfl) rfl #[.agg #[.slice Ao42 t110.length co42, .slice Ao45 t113.length co45]] rfl (by (try simp only [List.map_toArray, List.map_cons, List.map_nil]); first | done | rfl | (simp only [List.length_drop, List.length_take]; rfl)) ?_; (with_reducible refine (impl_GoodStore.calls k _ _ t110 _ _ t113 t117 _ ?side1 ?side2 ?side3 ?side4 A10.out).mono ?_); (case side1 => refine (Kd.S_reads' (e := 30) (base := w.heap.size) (ok := fun k_ => (True ∧ some k_ ≠ (.slice Ao36 t103.length co36 : Value).ownBlock)) (n := t110.length) (c := co42) ?_).2.2; exact (by (with_reducible repeat (first | apply Kd.S_alloc | apply Kd.S_drewN | apply Kd.S_drew)); exact (Kd.S_mono (Kd.S_far (p := ⟨gb116, 1, none⟩) (Kd.S_far (p := ⟨gb116, 0, none⟩) (Kd.S_types HO112.out BK116.out (by decide)) (fun _ hk => hk.2) (.slice Ao42 t110.length co42)) (fun _ hk => hk.2) (.slice Ao45 t113.length co45)) (fun _ h_ => h_.1)))); (case side2 => exact (Kd.S_reads' HO112.out).2.1); (case side3 => refine (Kd.R_reads' (e := 3) (base := w.heap.size) (ok := fun k_ => (True ∧ some k_ ≠ (.slice Ao37 t106.length co37 : Value).ownBlock)) (n := t113.length) (c := co45) ?_).2.2; exact (sR (Kd.R_mono (Kd.R_far (p := ⟨gb116, 1, none⟩) (Kd.R_far (p := ⟨gb116, 0, none⟩) (Kd.R_types HO115.out BK116.out (by decide)) (fun _ hk => hk.2) (.slice Ao42 t110.length co42)) (fun _ hk => hk.2) (.slice Ao45 t113.length co45)) (fun _ h_ => h_.1)))); (case side4 => exact (Kd.R_reads' HO115.out).2.1); rintro e w46 ⟨rfl, hb⟩; refine ⟨_, rfl, ?_⟩; have n0_ := sA (Kd.S_below (by (with_reducible repeat (first | apply Kd.S_alloc | apply Kd.S_drewN | apply Kd.S_drew)); exact (Kd.S_mono (Kd.S_far (p := ⟨gb116, 1, none⟩) (Kd.S_far (p := ⟨gb116, 0, none⟩) (Kd.S_types HO105.out BK116.out (by decide)) (fun _ hk => hk.2) (.slice Ao42 t110.length co42)) (fun _ hk => hk.2) (.slice Ao45 t113.length co45)) (fun _ h_ => h_.1))) hb); have n1_ := sA (Kd.R_below (sR (Kd.R_mono (Kd.R_far (p := ⟨gb116, 1, none⟩) (Kd.R_far (p := ⟨gb116, 0, none⟩) (Kd.R_types HO108.out BK116.out (by decide)) (fun _ hk => hk.2) (.slice Ao42 t110.length co42)) (fun _ hk => hk.2) (.slice Ao45 t113.length co45)) (fun _ h_ => h_.1))) hb); have n2_ := sA (Kd.S_below (by (with_reducible repeat (first | apply Kd.S_alloc | apply Kd.S_drewN | apply Kd.S_drew)); exact (Kd.S_mono (Kd.S_far (p := ⟨gb116, 1, none⟩) (Kd.S_far (p := ⟨gb116, 0, none⟩) (Kd.S_types HO112.out BK116.out (by decide)) (fun _ hk => hk.2) (.slice Ao42 t110.length co42)) (fun _ hk => hk.2) (.slice Ao45 t113.length co45)) (fun _ h_ => h_.1))) hb); have n3_ := sA (Kd.R_below (sR (Kd.R_mono (Kd.R_far (p := ⟨gb116, 1, none⟩) (Kd.R_far (p := ⟨gb116, 0, none⟩) (Kd.R_types HO115.out BK116.out (by decide)) (fun _ hk => hk.2) (.slice Ao42 t110.length co42)) (fun _ hk => hk.2) (.slice Ao45 t113.length co45)) (fun _ h_ => h_.1))) hb); have n4_ := sA (blk_below (g := gb101) (o := .cells #[.slice A0_0 l0_0.length c0_0, .slice A0_1 l0_1.length c0_1] 49 (0, 0)) (by (with_reducible repeat first | apply blk_drewN | apply blk_drew | apply blk_alloc); refine blk_far ?_ NB101_116.out _; (with_reducible repeat first | apply blk_drewN | apply blk_drew | apply blk_alloc); refine blk_far ?_ NB101_116.out _; (with_reducible repeat first | apply blk_drewN | apply blk_drew | apply blk_alloc); exact BK101.out) hb); have n5_ := sA (blk_below (g := gb116) (o := .cells #[.slice Ao42 t110.length co42, .slice Ao45 t113.length co45] 54 (0, 0)) (by (with_reducible repeat first | apply blk_drewN | apply blk_drew | apply blk_alloc); refine blk_put (cs := #[.slice Ao42 t110.length co42, .slice none 0 0]) ?_ 1 _ rfl; (with_reducible repeat first | apply blk_drewN | apply blk_drew | apply blk_alloc); refine blk_put (cs := #[.slice none 0 0, .slice none 0 0]) ?_ 0 _ rfl; (with_reducible repeat first | apply blk_drewN | apply blk_drew | apply blk_alloc); exact BK116.out) hb); have n6_ := sA (below_step (by repeat (first | (with_reducible first | exact HB.out | apply sLA | apply sLN | apply sLD | refine sLS ?_ (Aside0.out (by assumption))) | exact HB.out)) hb); clear HO105; clear HO108; clear HO112; clear HO115; clear BK101; clear BK116; clear HB; have HO105 := n0_; have HO108 := n1_; have HO112 := n2_; have HO115 := n3_; have BK101 := n4_; have BK116 := n5_; have HB := n6_; clear n0_ n1_ n2_ n3_ n4_ n5_ n6_; (try clear hb); (try clear hb2); (try clear hk); (try clear hi)))
    have n0_ := sA (Kd.S_drew HO105.out)
    have n1_ := sA (Kd.R_drew HO108.out)
    have n2_ := sA (Kd.S_drew HO112.out)
    have n3_ := sA (Kd.R_drew HO115.out)
    have n4_ := sA (blk_drew BK101.out)
    have n5_ := sA (blk_drew BK116.out)
    have n6_ := sA (below_drew1 HB.out)
    clear HO105
    clear HO108
    clear HO112
    clear HO115
    clear BK101
    clear BK116
    clear HB
    have HO105 := n0_
    have HO108 := n1_
    have HO112 := n2_
    have HO115 := n3_
    have BK101 := n4_
    have BK116 := n5_
    have HB := n6_
    clear n0_ n1_ n2_ n3_ n4_ n5_ n6_
    refine start_ (n := 5) (S := fun w' => w'.cell? ⟨gb116, 0, none⟩ = some (.slice Ao42 t110.length co42) ∧ w'.cell? ⟨gb116, 1, none⟩ = some (.slice Ao45 t113.length co45) ∧ w'.cell? ⟨gb101, 0, none⟩ = some (.slice A0_0 l0_0.length c0_0) ∧ w'.cell? ⟨gb101, 1, none⟩ = some (.slice A0_1 l0_1.length c0_1)) (ds := []) (sM 5 0) (by kernel_rfl) rfl rfl ⟨sC BK116 0 rfl, sC BK116 1 rfl, sC BK101 0 rfl, sC BK101 1 rfl⟩ (fun hHeld => ?_)
    generalize w46.drew = w47 at HO105 HO108 HO112 HO115 BK101 BK116 HB hHeld ⊢
    refine take_ (i := 0) (N := some 22) (v := ?_) (a' := ?_) (sM 5 1) rfl rfl (by kernel_rfl) (fun _ _ _ h => h) (Or.inl ⟨by rfl, ?_⟩) hHeld ?_ ?_
    rotate_left
    ·rintro w' ⟨s0, s1, s2, s3⟩
     go_simp
     with_reducible rfl
    rotate_left
    ·simp only [Act.put, sI, sZ, sV, i64_w, i32_w]
     rfl
    refine take_ (i := 1) (N := some 23) (v := ?_) (a' := ?_) (sM 5 3) rfl rfl (by kernel_rfl) (fun _ _ _ h => h) (Or.inl ⟨by rfl, ?_⟩) hHeld ?_ ?_
    rotate_left
    ·rintro w' ⟨s0, s1, s2, s3⟩
     go_simp
     with_reducible rfl
    rotate_left
    ·simp only [Act.put, sI, sZ, sV, i64_w, i32_w]
     rfl
    refine one_ (i := 2) (N := some 24) (sM 5 7) rfl rfl (by kernel_rfl) (by decide) (fun K hK => ?_)
    refine goes_ Try.func22 (by kernel_rfl) rfl #[.agg #[.slice A0_0 l0_0.length c0_0, .slice A0_1 l0_1.length c0_1]] (by rfl) rfl rfl (by (try simp only [List.map_toArray, List.map_cons, List.map_nil]); first | done | rfl | (simp only [List.length_drop, List.length_take]; rfl)) ?_
    with_reducible refine (laws_toStore.calls k _ _ l0_0 _ _ l0_1 t118 t121 _ ?side1 ?side2 ?side3 ?side4 A28.out).mono ?_
    (case side1 => repeat (first | exact (Kd.C_below HR0_0.out HB.out) | (with_reducible refine Kd.C_alloc ?_ _) | (with_reducible refine Kd.C_drewN ?_ _) | (with_reducible refine Kd.C_drew ?_)))
    (case side2 => exact HC0_0.out)
    (case side3 => repeat (first | exact (Kd.C_below HR0_1.out HB.out) | (with_reducible refine Kd.C_alloc ?_ _) | (with_reducible refine Kd.C_drewN ?_ _) | (with_reducible refine Kd.C_drew ?_)))
    (case side4 => exact HC0_1.out)
    rintro e w48 ⟨v119, v122, rfl, ho0, ho1, hb⟩
    refine ⟨_, rfl, ?_⟩
    have n0_ := sA (Kd.S_elder' (by (with_reducible repeat (first | apply Kd.S_alloc | apply Kd.S_drewN | apply Kd.S_drew)); exact HO105.out) (Kd.S_base ho0) hb)
    have n1_ := sA (Kd.R_elder' (sR HO108.out) (Kd.R_base ho1) hb)
    have n2_ := sA (Kd.S_elder' (by (with_reducible repeat (first | apply Kd.S_alloc | apply Kd.S_drewN | apply Kd.S_drew)); exact HO112.out) (Kd.S_base ho0) hb)
    have n3_ := sA (Kd.R_elder' (sR HO115.out) (Kd.R_base ho1) hb)
    have n4_ := sA (Kd.S_lower (Kd.S_new' (Kd.S_new' ho0 (Kd.S_lt (by (with_reducible repeat (first | apply Kd.S_alloc | apply Kd.S_drewN | apply Kd.S_drew)); exact HO105.out))) (Kd.S_lt (by (with_reducible repeat (first | apply Kd.S_alloc | apply Kd.S_drewN | apply Kd.S_drew)); exact HO112.out))) (below_size (by repeat (first | (with_reducible first | exact HB.out | apply sLA | apply sLN | apply sLD | refine sLS ?_ (Aside0.out (by assumption))) | exact HB.out))))
    have n5_ := sA (Kd.R_lower (Kd.R_new' (Kd.R_new' ho1 (Kd.R_lt (sR HO108.out))) (Kd.R_lt (sR HO115.out))) (below_size (by repeat (first | (with_reducible first | exact HB.out | apply sLA | apply sLN | apply sLD | refine sLS ?_ (Aside0.out (by assumption))) | exact HB.out))))
    have n6_ := sA (blk_below (sB BK101.out) hb)
    have n7_ := sA (blk_below (sB BK116.out) hb)
    have n8_ := sA (below_step (by repeat (first | (with_reducible first | exact HB.out | apply sLA | apply sLN | apply sLD | refine sLS ?_ (Aside0.out (by assumption))) | exact HB.out)) hb)
    clear HO105
    clear HO108
    clear HO112
    clear HO115
    clear BK101
    clear BK116
    clear HB
    have HO105 := n0_
    have HO108 := n1_
    have HO112 := n2_
    have HO115 := n3_
    have HO120 := n4_
    have HO123 := n5_
    have BK101 := n6_
    have BK116 := n7_
    have HB := n8_
    clear n0_ n1_ n2_ n3_ n4_ n5_ n6_ n7_ n8_
    (try clear hb)
    (try clear hb2)
    (try clear hk)
    (try clear hi)
    (try clear ho0)
    (try clear ho1)
    obtain ⟨Ao49, co49, eo49⟩ := Kd.S_slice HO120.out
    (first | subst eo49 | (injection eo49 with f1_ f2_ f3_; have f4_ := f1_.symm; have f5_ := f3_.symm; clear f1_ f2_ f3_; subst f4_; subst f5_))
    obtain ⟨Ao50, co50, eo50⟩ := Kd.R_slice HO123.out
    (first | subst eo50 | (injection eo50 with f1_ f2_ f3_; have f4_ := f1_.symm; have f5_ := f3_.symm; clear f1_ f2_ f3_; subst f4_; subst f5_))
    refine hK.out _ _ ⟨sC BK116 0 rfl, sC BK116 1 rfl, sC BK101 0 rfl, sC BK101 1 rfl⟩ (fun hHeld => ?_)
    clear hK K
    refine norm_ (a' := ?_) ?_ ?_
    rotate_left
    ·show Act.put _ (some 24) _ = _
     simp only [Act.put, sI, sZ, sV, i64_w, i32_w]
     rfl
    refine one_ (i := 3) (N := some 25) (sM 5 15) rfl rfl (by kernel_rfl) (by decide) (fun K hK => ?_)
    refine goes_ Try.func24 (by kernel_rfl) rfl #[.agg #[.slice Ao42 t110.length co42, .slice Ao45 t113.length co45], .agg #[.slice Ao49 t118.length co49, .slice Ao50 t121.length co50]] (by rfl) rfl rfl (by (try simp only [List.map_toArray, List.map_cons, List.map_nil]); first | done | rfl | (simp only [List.length_drop, List.length_take]; rfl)) ?_
    with_reducible refine (laws_eqStore.calls k _ _ t110 _ _ t113 _ _ t118 _ _ t121 true _ ?side1 ?side2 ?side3 ?side4 ?side5 ?side6 ?side7 ?side8 A29.out).mono ?_
    (case side1 => repeat (first | exact (Kd.S_reads' HO112.out).2.2 | (with_reducible refine Kd.C_alloc ?_ _) | (with_reducible refine Kd.C_drewN ?_ _) | (with_reducible refine Kd.C_drew ?_)))
    (case side2 => exact (Kd.S_reads' HO112.out).2.1)
    (case side3 => repeat (first | exact (Kd.R_reads' HO115.out).2.2 | (with_reducible refine Kd.C_alloc ?_ _) | (with_reducible refine Kd.C_drewN ?_ _) | (with_reducible refine Kd.C_drew ?_)))
    (case side4 => exact (Kd.R_reads' HO115.out).2.1)
    (case side5 => repeat (first | exact (Kd.S_reads' HO120.out).2.2 | (with_reducible refine Kd.C_alloc ?_ _) | (with_reducible refine Kd.C_drewN ?_ _) | (with_reducible refine Kd.C_drew ?_)))
    (case side6 => exact (Kd.S_reads' HO120.out).2.1)
    (case side7 => repeat (first | exact (Kd.R_reads' HO123.out).2.2 | (with_reducible refine Kd.C_alloc ?_ _) | (with_reducible refine Kd.C_drewN ?_ _) | (with_reducible refine Kd.C_drew ?_)))
    (case side8 => exact (Kd.R_reads' HO123.out).2.1)
    rintro e w51 ⟨rfl, hb⟩
    refine ⟨_, rfl, ?_⟩
    have n0_ := sA (Kd.S_below (by (with_reducible repeat (first | apply Kd.S_alloc | apply Kd.S_drewN | apply Kd.S_drew)); exact HO105.out) hb)
    have n1_ := sA (Kd.R_below (sR HO108.out) hb)
    have n2_ := sA (Kd.S_below (by (with_reducible repeat (first | apply Kd.S_alloc | apply Kd.S_drewN | apply Kd.S_drew)); exact HO112.out) hb)
    have n3_ := sA (Kd.R_below (sR HO115.out) hb)
    have n4_ := sA (Kd.S_below (by (with_reducible repeat (first | apply Kd.S_alloc | apply Kd.S_drewN | apply Kd.S_drew)); exact HO120.out) hb)
    have n5_ := sA (Kd.R_below (sR HO123.out) hb)
    have n6_ := sA (blk_below (sB BK101.out) hb)
    have n7_ := sA (blk_below (sB BK116.out) hb)
    have n8_ := sA (below_step (by repeat (first | (with_reducible first | exact HB.out | apply sLA | apply sLN | apply sLD | refine sLS ?_ (Aside0.out (by assumption))) | exact HB.out)) hb)
    clear HO105
    clear HO108
    clear HO112
    clear HO115
    clear HO120
    clear HO123
    clear BK101
    clear BK116
    clear HB
    have HO105 := n0_
    have HO108 := n1_
    have HO112 := n2_
    have HO115 := n3_
    have HO120 := n4_
    have HO123 := n5_
    have BK101 := n6_
    have BK116 := n7_
    have HB := n8_
    clear n0_ n1_ n2_ n3_ n4_ n5_ n6_ n7_ n8_
    (try clear hb)
    (try clear hb2)
    (try clear hk)
    (try clear hi)
    refine hK.out _ _ ⟨sC BK116 0 rfl, sC BK116 1 rfl, sC BK101 0 rfl, sC BK101 1 rfl⟩ (fun hHeld => ?_)
    clear hK K
    refine norm_ (a' := ?_) ?_ ?_
    rotate_left
    ·show Act.put _ (some 25) _ = _
     simp only [Act.put, sI, sZ, sV, i64_w, i32_w]
     rfl
    refine pure_ (i := 4) (N := some 26) (v := ?_) (a' := ?_) (sM 5 31) rfl rfl (by kernel_rfl) (fun _ _ _ h => h) (Or.inl ⟨by rfl, ?_⟩) ?_ ?_
    rotate_left
    ·intro w'
     go_simp
     with_reducible rfl
    rotate_left
    ·simp only [Act.put, sI, sZ, sV, i64_w, i32_w]
     rfl
    refine done_ (by kernel_rfl) ?_
    try go_wp2
    go_ret
    exact ⟨by first | rfl | (simp [errW_none, errW_some] <;> rfl) | (simp [*, errW_none, errW_some] <;> rfl), by repeat (first | (with_reducible first | exact HB.out | apply sLA | apply sLN | apply sLD | refine sLS ?_ GE101.out | refine sLS ?_ GE116.out) | exact HB.out)⟩
   ·replace c30 := Bool.eq_false_iff.mpr c30
    subst c30
    have H1 : (some false) = some r := by rw [if_neg (show ¬ (false = true) by decide)] at H; exact H
    clear H
    have H := H1
    clear H1
    exact absurd (hr_.symm.trans (Option.some.inj H).symm) (by decide)

end Go.Proofs.Ytenefihoegkliaa.P

/- Reading of arguments by kind: what the row's reader can read is a value of the printed kind. -/
namespace Go.Proofs.Ytenefihoegkliaa.Opn
open Go.RowKit Go.Proofs.YtenefihoegkliaaW.PrintWords

structure Opens {α : Type} (P : Program) (t : TypeId) (d : Kd α) (wf : α → Prop) : Prop where
 out : ∀ {H : Type} (enc : TypeId × Value → H) (W : World) (fuel : Nat) (cs : List Value) (x : DataW H × List MemPlace),
  DataW.trod enc P W 0 (fun _ => true) true fuel t cs = some x → ∃ y, d.K W y cs ∧ wf y

def wfI (x : Int) : Prop := -9223372036854775808 ≤ x ∧ x ≤ 9223372036854775807
def wfB (_ : Bool) : Prop := True
def wfS (x : ByteArray) : Prop := x.size ≤ 9223372036854775807
def wfL {α : Type} (wf : α → Prop) (l : List α) : Prop := l.length ≤ 9223372036854775807 ∧ ∀ x, x ∈ l → wf x

theorem wfI_of {x : Int} (hw : (Lit.int .i64 x).wf = true) : wfI x := by
 simp [Lit.wf] at hw
 exact ⟨by simpa [IntKind.min, IntKind.signed, IntKind.bits] using hw.1, by simpa [IntKind.max, IntKind.signed, IntKind.bits] using hw.2⟩
theorem opens_int {P : Program} {t : TypeId} (h : P.underlying t = some (.int .i64)) : Opens P t (Kd.int .i64) wfI := by
 refine ⟨?_⟩
 intro H enc W fuel cs x hx
 obtain ⟨n, rfl, _, hw⟩ := DataW.trod_int h hx
 exact ⟨n, rfl, wfI_of hw⟩
theorem opens_bool {P : Program} {t : TypeId} (h : P.underlying t = some .bool) : Opens P t Kd.bool wfB := by
 refine ⟨?_⟩
 intro H enc W fuel cs x hx
 obtain ⟨b, rfl, _⟩ := DataW.trod_bool h hx
 exact ⟨b, rfl, trivial⟩
theorem opens_string {P : Program} {t : TypeId} (h : P.underlying t = some .string) : Opens P t Kd.string wfS := by
 refine ⟨?_⟩
 intro H enc W fuel cs x hx
 obtain ⟨b, rfl, _, hs⟩ := DataW.trod_string h hx
 exact ⟨b, rfl, hs⟩

theorem add_add_ (ad : Addr) (m j : Nat) : (ad.add m).add j = ad.add (m + j) := by
 unfold Addr.add
 by_cases hm : m = 0
 ·subst hm; simp
 ·by_cases hj : j = 0
  ·subst hj; simp [hm]
  ·simp [hm, hj, Nat.add_assoc]

theorem opens_slice {P : Program} {t e : TypeId} {α : Type} {d : Kd α} {wf : α → Prop} (h : P.underlying t = some (.slice e)) (hsz : P.cellsOf e = d.sz) (ho : Opens P e d wf) : Opens P t (Kd.slice e d) (wfL wf) := by
 refine ⟨?_⟩
 intro H enc W fuel cs x hx
 rcases DataW.trod_slice h hx with ⟨rfl, _⟩ | ⟨a, len, cap, elems, rest, n, _, rfl, _, _, hl, hm, hlen, hel, _, _⟩
 ·exact ⟨[], ⟨none, 0, rfl, Nat.le_refl _, rfl, by simp, fun hp => absurd hp (by simp)⟩, by simp, fun x hx => by simp at hx⟩
 ·have hm' : len ≤ 9223372036854775807 := by simp only [maxLen] at hm; omega
  have each : ∀ i, i < len → ∃ y c, c.length = d.sz ∧ d.K W y c ∧ wf y ∧ ∀ j u, c[j]? = some u → W.cell? (a.add (i * d.sz + j)) = some u := by
   intro i hi
   have h1 := hel i hi
   rw [List.getElem?_eq_getElem (by omega)] at h1
   obtain ⟨c, hc, hd⟩ := Option.bind_eq_some_iff.1 h1
   obtain ⟨y, hy, hw⟩ := ho.out enc W n c _ hd
   obtain ⟨_, hcl, hcc⟩ := World.cells?_some hc
   refine ⟨y, c, by rw [hcl, hsz], hy, hw, fun j u hu => ?_⟩
   have hj : j < P.cellsOf e := by have := (List.getElem?_eq_some_iff.1 hu).1; omega
   have := hcc j hj
   rw [hu, add_add_, hsz] at this
   exact this
  have build : ∀ k, k ≤ len → ∃ ys : List α, ys.length = k ∧ (∀ y, y ∈ ys → wf y) ∧ ∀ j p, ys[j]? = some p → ∃ c, c.length = d.sz ∧ d.K W p c ∧ ∀ i u, c[i]? = some u → W.cell? (a.add (j * d.sz + i)) = some u := by
   intro k
   induction k with
   | zero => intro _; exact ⟨[], rfl, by simp, by simp⟩
   | succ k ih =>
    intro hk
    obtain ⟨ys, hlys, hw, hy⟩ := ih (by omega)
    obtain ⟨y, c, hcl, hK, hwy, hcell⟩ := each k (by omega)
    refine ⟨ys ++ [y], by simp [hlys], fun z hz => ?_, fun j p hp => ?_⟩
    ·rcases List.mem_append.1 hz with hz | hz
     ·exact hw z hz
     ·rw [List.mem_singleton.1 hz]; exact hwy
    ·rcases Nat.lt_or_ge j ys.length with hj | hj
     ·rw [List.getElem?_append_left hj] at hp
      exact hy j p hp
     ·have hj' : j = ys.length := by
       have := (List.getElem?_eq_some_iff.1 hp).1
       simp at this
       omega
      subst hj'
      have hp' : y = p := by simpa using hp
      subst hp'
      rw [hlys]
      exact ⟨c, hcl, hK, hcell⟩
  obtain ⟨ys, hlys, hw, hy⟩ := build len (Nat.le_refl _)
  subst hlys
  exact ⟨ys, ⟨some a, cap, rfl, hl, rfl, hm', fun _ => ⟨a, rfl, hy⟩⟩, hm', hw⟩

/-- the fields of a struct from an offset on -/
structure OpensF {α : Type} (P : Program) (fs : List Field) (off : Nat) (d : Kd α) (wf : α → Prop) : Prop where
 out : ∀ {H : Type} (enc : TypeId × Value → H) (W : World) (fuel : Nat) (cs : List Value), cs.length = off + d.sz →
  (∀ (i : Nat) (f : Field), fs[i]? = some f → ∃ y, DataW.trod enc P W 0 (fun _ => true) true fuel f.type ((cs.drop f.offset).take (P.cellsOf f.type)) = some y) →
  ∃ y, d.K W y (cs.drop off) ∧ wf y

theorem opens_last {P : Program} {f : Field} {off : Nat} {α : Type} {d : Kd α} {wf : α → Prop} (hoff : f.offset = off) (hsz : P.cellsOf f.type = d.sz) (ho : Opens P f.type d wf) : OpensF P [f] off d wf := by
 refine ⟨?_⟩
 intro H enc W fuel cs hl hf
 obtain ⟨y, hy⟩ := hf 0 f rfl
 rw [hoff, hsz, List.take_of_length_le (by rw [List.length_drop]; omega)] at hy
 exact ho.out enc W fuel _ _ hy

theorem opens_cons {P : Program} {f : Field} {fs : List Field} {off : Nat} {α β : Type} {a : Kd α} {b : Kd β} {wa : α → Prop} {wb : β → Prop} (hoff : f.offset = off) (hsz : P.cellsOf f.type = a.sz)
  (ha : Opens P f.type a wa) (hb : OpensF P fs (off + a.sz) b wb) : OpensF P (f :: fs) off (Kd.pair a b) (fun x => wa x.1 ∧ wb x.2) := by
 refine ⟨?_⟩
 intro H enc W fuel cs hl hf
 have hl' : cs.length = off + (a.sz + b.sz) := hl
 obtain ⟨y, hy⟩ := hf 0 f rfl
 rw [hoff, hsz] at hy
 obtain ⟨p, hp, hwp⟩ := ha.out enc W fuel _ _ hy
 obtain ⟨q, hq, hwq⟩ := hb.out enc W fuel cs (by omega) (fun i g hg => hf (i + 1) g (by simpa using hg))
 refine ⟨(p, q), ⟨(cs.drop off).take a.sz, cs.drop (off + a.sz), ?_, hp, hq⟩, hwp, hwq⟩
 rw [← List.drop_drop, List.take_append_drop]

theorem opens_struct {P : Program} {t : TypeId} {fs : Array Field} {α β : Type} {d : Kd α} {f : β → α} {wf : α → Prop} (hT : P.underlying t = some (.struct fs)) (hsz : P.cellsOf t = d.sz) (g : α → β) (hg : ∀ y, f (g y) = y)
  (ho : OpensF P fs.toList 0 d wf) : Opens P t (Kd.iso d f) (fun x => wf (f x)) := by
 refine ⟨?_⟩
 intro H enc W fuel cs x hx
 obtain ⟨xs, n, _, _, hl, hlen, hf⟩ := DataW.trod_struct hT hx
 obtain ⟨y, hy, hw⟩ := ho.out enc W n cs (by omega) (fun i q hq => ⟨_, (hf i q (by simpa using hq)).trans (List.getElem?_eq_getElem (by
  have := (List.getElem?_eq_some_iff.1 hq).1
  simp at this hlen
  omega))⟩)
 refine ⟨g y, ?_, ?_⟩
 ·show d.K W (f (g y)) cs
  rw [hg]
  exact hy
 ·show wf (f (g y))
  rw [hg]
  exact hw

end Go.Proofs.Ytenefihoegkliaa.Opn

namespace Go.Proofs.Ytenefihoegkliaa.P
open Go.RowKit Go.Proofs.YtenefihoegkliaaW.PrintWords Go.Proofs.YtenefihoegkliaaW.PrintLast Go.Proofs.YtenefihoegkliaaW.PrintMore Go.Proofs.Ytenefihoegkliaa.Opn
set_option linter.unusedVariables false

theorem opens3 : Opens Try.prog 3 (Kd.int .i64) wfI := opens_int Try.underlying3
theorem opens9 : Opens Try.prog 9 Kd.string wfS := opens_string Try.underlying9
def wf82 (x : S82) : Prop := wfI x.f0 ∧ wfI x.f1
theorem opens82 : Opens Try.prog 82 k82 wf82 := by
 have h := opens_struct (f := (fun x : S82 => (x.f0, x.f1))) Try.underlying82 (by kernel_rfl) (fun y => ⟨y.1, y.2⟩) (fun _ => rfl) (opens_cons rfl (by kernel_rfl) opens3 (opens_last rfl (by kernel_rfl) opens3))
 exact ⟨h.out⟩
theorem opens22 : Opens Try.prog 22 (Kd.slice 82 k82) (wfL wf82) := opens_slice Try.underlying22 (by kernel_rfl) opens82
def wf24 (x : S24) : Prop := wfI x.f0 ∧ wfI x.f1 ∧ wfS x.f2 ∧ (wfL wf82) x.f3
theorem opens24 : Opens Try.prog 24 k24 wf24 := by
 have h := opens_struct (f := (fun x : S24 => (x.f0, x.f1, x.f2, x.f3))) Try.underlying24 (by kernel_rfl) (fun y => ⟨y.1, y.2.1, y.2.2.1, y.2.2.2⟩) (fun _ => rfl) (opens_cons rfl (by kernel_rfl) opens3 (opens_cons rfl (by kernel_rfl) opens3 (opens_cons rfl (by kernel_rfl) opens9 (opens_last rfl (by kernel_rfl) opens22))))
 exact ⟨h.out⟩
theorem opens46 : Opens Try.prog 46 (Kd.slice 24 k24) (wfL wf24) := opens_slice Try.underlying46 (by kernel_rfl) opens24
theorem opens47 : Opens Try.prog 47 (Kd.slice 3 (Kd.int .i64)) (wfL wfI) := opens_slice Try.underlying47 (by kernel_rfl) opens3
def wf49 (x : S49) : Prop := (wfL wf24) x.f0 ∧ (wfL wfI) x.f1
theorem opens49 : Opens Try.prog 49 k49 wf49 := by
 have h := opens_struct (f := (fun x : S49 => (x.f0, x.f1))) Try.underlying49 (by kernel_rfl) (fun y => ⟨y.1, y.2⟩) (fun _ => rfl) (opens_cons rfl (by kernel_rfl) opens46 (opens_last rfl (by kernel_rfl) opens47))
 exact ⟨h.out⟩

end Go.Proofs.Ytenefihoegkliaa.P

namespace Go.Proofs.Ytenefihoegkliaa.P
open Go.RowKit Go.Proofs.YtenefihoegkliaaW.PrintWords Go.Proofs.YtenefihoegkliaaW.PrintLast Go.Proofs.YtenefihoegkliaaW.PrintMore Go.Proofs.Ytenefihoegkliaa.Opn
set_option linter.unusedVariables false

def laws_FnExactGoodStore.Pure : Prop := ∀ (l0_0 : List (S24)) (l0_1 : List Int), (wfL wf24) l0_0 → (wfL wfI) l0_1 → ∃ k, laws_FnExactGoodStore.f k l0_0 l0_1 = some true

end Go.Proofs.Ytenefihoegkliaa.P

namespace Go.Proofs.Ytenefihoegkliaa.Pure
open Go.RowKit Go.Proofs.Ytenefihoegkliaa.P Go.Proofs.YtenefihoegkliaaW.PrintWords Go.Proofs.YtenefihoegkliaaW.PrintLast Go.Proofs.Ytenefihoegkliaa.Opn
set_option linter.unusedVariables false
set_option linter.unusedSimpArgs false

theorem wrap_id {x : Int} (h0 : -9223372036854775808 ≤ x) (h1 : x ≤ 9223372036854775807) : wrap64 x = x := by
 unfold wrap64
 omega
theorem rd_nat (l : List Int) (i : Nat) (h : i < l.length) : rd l (i : Int) = l[i] := by
 simp [rd, List.getD_eq_getElem?_getD, List.getElem?_eq_getElem h]
theorem drop_rd (l : List Int) (i : Nat) (h : i < l.length) : l.drop i = rd l (i : Int) :: l.drop (i + 1) := by
 rw [List.drop_eq_getElem_cons h, rd_nat l i h]
theorem take_rd (l : List Int) (i : Nat) (h : i < l.length) : l.take (i + 1) = l.take i ++ [rd l (i : Int)] := by
 rw [List.take_succ_eq_append_getElem h, rd_nat l i h]
theorem take_set_succ {α : Type} (l : List α) (i : Nat) (h : i < l.length) (v : α) : (l.set i v).take (i + 1) = l.take i ++ [v] := by
 rw [List.take_succ_eq_append_getElem (by simpa using h)]
 rw [List.getElem_set_self, List.take_set_of_le (Nat.le_refl i)]
theorem round {k d : Nat} (h : d < k) : ∃ m, k = m + 1 := ⟨k - 1, by omega⟩
def marks (a : Int) : Nat → List Int
 | 0 => []
 | n + 1 => a :: marks (a + 1) n
theorem marks_length (a : Int) (n : Nat) : (marks a n).length = n := by
 induction n generalizing a with
 | zero => rfl
 | succ n ih => simp [marks, ih]
theorem marks_rd (n : Nat) : ∀ (a : Int) (i : Nat), i < n → rd (marks a n) (i : Int) = a + i := by
 induction n with
 | zero => intro a i h; omega
 | succ n ih =>
  intro a i h
  cases i with
  | zero => simp [marks, rd]
  | succ i =>
   have := ih (a + 1) i (by omega)
   simp only [marks, rd, Int.toNat_natCast, List.getD_cons_succ] at this ⊢
   rw [this]
   push_cast
   omega
theorem marks_snoc (n : Nat) : ∀ (a : Int), marks a (n + 1) = marks a n ++ [a + n] := by
 induction n with
 | zero => intro a; simp [marks]
 | succ n ih =>
  intro a
  rw [marks, ih (a + 1)]
  simp only [marks, List.cons_append, List.cons.injEq, true_and]
  congr 2
  push_cast
  omega

end Go.Proofs.Ytenefihoegkliaa.Pure

namespace Go.Proofs.Ytenefihoegkliaa.Pure
open Go.RowKit Go.Proofs.Ytenefihoegkliaa.P Go.Proofs.YtenefihoegkliaaW.PrintWords Go.Proofs.YtenefihoegkliaaW.PrintLast Go.Proofs.Ytenefihoegkliaa.Opn
set_option linter.unusedVariables false
set_option linter.unusedSimpArgs false

theorem spec_in (a b c : Int) : spec_l1In.f a b c = some (decide (b ≤ a ∧ a ≤ c)) := by
 unfold spec_l1In.f
 by_cases h : a ≥ b
 ·rw [if_pos h]
  by_cases h2 : a ≤ c
  ·simp [h, h2]
  ·simp [h2]
 ·rw [if_neg h]
  have : ¬ b ≤ a := by omega
  simp [this]
theorem impl_in_ (a b c : Int) : impl_in.f a b c = some (decide (b ≤ a ∧ a ≤ c)) := spec_in a b c

end Go.Proofs.Ytenefihoegkliaa.Pure

namespace Go.Proofs.Ytenefihoegkliaa.Pure
open Go.RowKit Go.Proofs.Ytenefihoegkliaa.P Go.Proofs.YtenefihoegkliaaW.PrintWords Go.Proofs.YtenefihoegkliaaW.PrintLast Go.Proofs.Ytenefihoegkliaa.Opn
set_option linter.unusedVariables false
set_option linter.unusedSimpArgs false

def cvSpan (x : S82) : S69 := ⟨x.f0, x.f1⟩
theorem rdSpan (l : List S69) (i : Nat) (h : i < l.length) : rd_T69 l (i : Int) = l[i] := by
 simp [rd_T69, List.getD_eq_getElem?_getD, List.getElem?_eq_getElem h]
theorem rdLSpan (l : List S82) (i : Nat) (h : i < l.length) : rd_T82 l (i : Int) = l[i] := by
 simp [rd_T82, List.getD_eq_getElem?_getD, List.getElem?_eq_getElem h]
theorem drop_rdSpan (l : List S69) (i : Nat) (h : i < l.length) : l.drop i = rd_T69 l (i : Int) :: l.drop (i + 1) := by
 rw [List.drop_eq_getElem_cons h, rdSpan l i h]
theorem szSpanS_ok (l : List S82) (a : Int) (ha : 0 ≤ a) (ha2 : a ≤ 1048576) (h : (l.length : Int) ≤ a) : laws_szSpanS.f l a = some (a - l.length) := by
 unfold laws_szSpanS.f
 rw [wrap_id (by omega) (by omega), if_neg (by omega)]
theorem szSpanS_big (l : List S82) (a : Int) (ha : 0 ≤ a) (ha2 : a ≤ 1048576) (hl : l.length ≤ 9223372036854775807) (h : ¬ (l.length : Int) ≤ a) : laws_szSpanS.f l a = some (-1) := by
 unfold laws_szSpanS.f
 rw [wrap_id (by omega) (by omega), if_pos (by omega)]
theorem toSpanS_l0 (x : List S82) (hn : x.length ≤ 1048576) : ∀ (d k i : Nat) (y : List S69), i + d = x.length → d < k → y.length = x.length → y.take i = (x.map cvSpan).take i → laws_toSpanS.l0 k x y (i : Int) = some (x.map cvSpan) := by
 intro d
 induction d with
 | zero =>
  intro k i y hi hk hy ht
  obtain ⟨k, rfl⟩ := round hk
  simp only [laws_toSpanS.l0]
  rw [if_neg (by omega)]
  rw [List.take_of_length_le (by omega), List.take_of_length_le (by simp; omega)] at ht
  rw [ht]
 | succ d ih =>
  intro k i y hi hk hy ht
  obtain ⟨k, rfl⟩ := round hk
  simp only [laws_toSpanS.l0, laws_toSpan.f, Option.bind_some]
  rw [if_pos (by omega), if_pos (by omega), if_pos (by omega), wrap_id (by omega) (by omega), Int.toNat_natCast]
  have := ih k (i + 1) (y.set i (cvSpan (rd_T82 x i))) (by omega) (by omega) (by simpa using hy) (by
   rw [take_set_succ _ _ (by omega), ht, List.take_succ_eq_append_getElem (by simp; omega), rdLSpan x i (by omega), List.getElem_map])
  simpa [cvSpan] using this
theorem toSpanS (x : List S82) (hn : x.length ≤ 1048576) (k : Nat) (hk : x.length < k) : laws_toSpanS.f k x = some (x.map cvSpan) := by
 unfold laws_toSpanS.f
 rw [if_pos (by omega), if_pos (by omega), Int.toNat_natCast]
 exact toSpanS_l0 x hn x.length k 0 _ (by omega) hk (by simp) (by simp)
theorem eqSpan_refl (x : S69) : laws_eqSpan.f x.f0 x.f1 x.f0 x.f1 = some true := by
 unfold laws_eqSpan.f
 simp
theorem eqSpanS_l0 (x : List S69) (hn : x.length ≤ 1048576) : ∀ (d k i : Nat), i + d = x.length → d < k → laws_eqSpanS.l0 k x x (i : Int) = some true := by
 intro d
 induction d with
 | zero =>
  intro k i hi hk
  obtain ⟨k, rfl⟩ := round hk
  simp only [laws_eqSpanS.l0]
  rw [if_neg (by omega)]
 | succ d ih =>
  intro k i hi hk
  obtain ⟨k, rfl⟩ := round hk
  simp only [laws_eqSpanS.l0]
  rw [if_pos (by omega), if_pos (by omega), if_pos (by omega), eqSpan_refl, Option.bind_some, if_pos rfl, wrap_id (by omega) (by omega)]
  have := ih k (i + 1) (by omega) (by omega)
  simpa using this
theorem eqSpanS (x : List S69) (hn : x.length ≤ 1048576) (k : Nat) (hk : x.length < k) : laws_eqSpanS.f k x x = some true := by
 unfold laws_eqSpanS.f
 rw [if_pos rfl]
 exact eqSpanS_l0 x hn x.length k 0 (by omega) hk

end Go.Proofs.Ytenefihoegkliaa.Pure

namespace Go.Proofs.Ytenefihoegkliaa.Pure
open Go.RowKit Go.Proofs.Ytenefihoegkliaa.P Go.Proofs.YtenefihoegkliaaW.PrintWords Go.Proofs.YtenefihoegkliaaW.PrintLast Go.Proofs.Ytenefihoegkliaa.Opn
set_option linter.unusedVariables false
set_option linter.unusedSimpArgs false

abbrev Sp := S69
def isSp (x : Sp) : Bool := decide (0 ≤ x.f0) && (decide (x.f0 < x.f1) && decide (x.f1 ≤ 1000000))
theorem spec_isSp (x : Sp) : spec_l2Span.f x.f0 x.f1 = some (isSp x) := by
 unfold spec_l2Span.f isSp
 by_cases h : x.f0 ≥ 0
 ·have h' : 0 ≤ x.f0 := h
  by_cases h2 : x.f0 < x.f1
  ·simp [h', h2]
  ·simp [h2]
 ·have h' : ¬ 0 ≤ x.f0 := h
  simp [h']
theorem impl_isSp (x : Sp) : impl_isSpan.f x.f0 x.f1 = some (isSp x) := spec_isSp x
def aft (p : Option Int) (x : Int) : Bool := match p with
 | none => true
 | some q => decide (q < x)
def spOk : Option Int → List Sp → Bool
 | _, [] => true
 | p, x :: l => isSp x && (aft p x.f0 && spOk (some x.f1) l)
def pvS (l : List Sp) (i : Nat) : Option Int := if i = 0 then none else some (rd_T69 l ((i - 1 : Nat) : Int)).f1
theorem pvS_succ (l : List Sp) (i : Nat) : pvS l (i + 1) = some (rd_T69 l (i : Int)).f1 := by simp [pvS]
theorem goodSpans_l0 (l : List Sp) (hn : l.length ≤ 1048576) : ∀ (d k i : Nat), i + d = l.length → d < k → spec_GoodSpans.l0 k l l (l.length : Int) (i : Int) = some (spOk (pvS l i) (l.drop i) && decide ((l.length : Int) ≤ 20)) := by
 intro d
 induction d with
 | zero =>
  intro k i h hk
  obtain ⟨k, rfl⟩ := round hk
  rw [spec_GoodSpans.l0, if_neg (by omega), List.drop_of_length_le (by omega)]
  simp [spOk]
 | succ d ih =>
  intro k i h hk
  obtain ⟨k, rfl⟩ := round hk
  have := ih k (i + 1) (by omega) (by omega)
  rw [spec_GoodSpans.l0, if_pos (by omega), if_pos (by omega), if_pos (by omega), spec_isSp, Option.bind_some, drop_rdSpan l i (by omega), spOk, wrap_id (x := (i : Int) + 1) (by omega) (by omega)]
  rw [pvS_succ] at this
  have e : ((i + 1 : Nat) : Int) = (i : Int) + 1 := by omega
  rw [e] at this
  rw [this]
  cases hs : isSp (rd_T69 l (i : Int)) with
  | false => simp
  | true =>
   rw [if_pos rfl]
   by_cases h0 : i = 0
   ·subst h0
    simp [pvS, aft]
   ·have e1 : wrap64 ((i : Int) - 1) = ((i - 1 : Nat) : Int) := by rw [wrap_id (by omega) (by omega)]; omega
    rw [if_pos (by omega), e1, if_pos (by omega), if_pos (by omega)]
    unfold pvS
    rw [if_neg h0]
    by_cases hq : (rd_T69 l ((i - 1 : Nat) : Int)).f1 ≥ (rd_T69 l (i : Int)).f0
    ·rw [if_pos hq]
     have : ¬ (rd_T69 l ((i - 1 : Nat) : Int)).f1 < (rd_T69 l (i : Int)).f0 := by omega
     simp [aft, this]
    ·rw [if_neg hq]
     have : (rd_T69 l ((i - 1 : Nat) : Int)).f1 < (rd_T69 l (i : Int)).f0 := by omega
     simp [aft, this]
theorem areSpans_l0 (l : List Sp) (hn : l.length ≤ 1048576) : ∀ (d k i : Nat), i + d = l.length → d < k → impl_areSpans.l0 k l l (l.length : Int) (i : Int) = some (spOk (pvS l i) (l.drop i)) := by
 intro d
 induction d with
 | zero =>
  intro k i h hk
  obtain ⟨k, rfl⟩ := round hk
  rw [impl_areSpans.l0, if_neg (by omega), List.drop_of_length_le (by omega)]
  simp [spOk]
 | succ d ih =>
  intro k i h hk
  obtain ⟨k, rfl⟩ := round hk
  have := ih k (i + 1) (by omega) (by omega)
  rw [impl_areSpans.l0, if_pos (by omega), if_pos (by omega), if_pos (by omega), impl_isSp, Option.bind_some, drop_rdSpan l i (by omega), spOk, wrap_id (x := (i : Int) + 1) (by omega) (by omega)]
  rw [pvS_succ] at this
  have e : ((i + 1 : Nat) : Int) = (i : Int) + 1 := by omega
  rw [e] at this
  rw [this]
  cases hs : isSp (rd_T69 l (i : Int)) with
  | false => simp
  | true =>
   rw [if_pos rfl]
   by_cases h0 : i = 0
   ·subst h0
    simp [pvS, aft]
   ·have e1 : wrap64 ((i : Int) - 1) = ((i - 1 : Nat) : Int) := by rw [wrap_id (by omega) (by omega)]; omega
    rw [if_pos (by omega), e1, if_pos (by omega), if_pos (by omega)]
    unfold pvS
    rw [if_neg h0]
    by_cases hq : (rd_T69 l (i : Int)).f0 ≤ (rd_T69 l ((i - 1 : Nat) : Int)).f1
    ·rw [if_pos hq]
     have : ¬ (rd_T69 l ((i - 1 : Nat) : Int)).f1 < (rd_T69 l (i : Int)).f0 := by omega
     simp [aft, this]
    ·rw [if_neg hq]
     have : (rd_T69 l ((i - 1 : Nat) : Int)).f1 < (rd_T69 l (i : Int)).f0 := by omega
     simp [aft, this]
def goodSp (l : List Sp) : Bool := spOk none l && decide ((l.length : Int) ≤ 20)
theorem spec_goodSp (l : List Sp) (hn : l.length ≤ 1048576) (k : Nat) (hk : l.length < k) : spec_GoodSpans.f k l = some (goodSp l) := by
 unfold spec_GoodSpans.f
 have := goodSpans_l0 l hn l.length k 0 (by omega) hk
 simpa [pvS, goodSp] using this
theorem impl_goodSp (l : List Sp) (hn : l.length ≤ 1048576) (k : Nat) (hk : l.length < k) : impl_areSpans.f k l = some (goodSp l) := by
 unfold impl_areSpans.f goodSp
 have := areSpans_l0 l hn l.length k 0 (by omega) hk
 by_cases h : (l.length : Int) > 20
 ·have h' : ¬ (l.length : Int) ≤ 20 := by omega
  simp [h, h']
 ·have h' : (l.length : Int) ≤ 20 := by omega
  rw [if_neg h]
  simpa [pvS, h'] using this
def belowSp (l : List Sp) (a : Int) : Bool := goodSp l && (decide (l.length = 0) || decide ((rd_T69 l ((l.length : Int) - 1)).f1 ≤ a))
theorem spec_below (l : List Sp) (a : Int) (hn : l.length ≤ 1048576) (k : Nat) (hk : l.length < k) : spec_l11Below.f k l a = some (belowSp l a) := by
 unfold spec_l11Below.f belowSp
 rw [spec_goodSp l hn k hk, Option.bind_some, wrap_id (x := (l.length : Int) - 1) (by omega) (by omega)]
 cases goodSp l with
 | false => simp
 | true =>
  rw [if_pos rfl]
  by_cases h0 : l.length = 0
  ·rw [if_pos (by omega)]
   simp [h0]
  ·rw [if_neg (by omega), if_pos (by omega), if_pos (by omega)]
   simp only [h0, decide_false, Bool.false_or, Bool.true_and]
theorem impl_below (l : List Sp) (a : Int) (hn : l.length ≤ 1048576) (k : Nat) (hk : l.length < k) : impl_areBelow.f k l a = some (belowSp l a) := by
 unfold impl_areBelow.f belowSp
 rw [impl_goodSp l hn k hk, Option.bind_some, wrap_id (x := (l.length : Int) - 1) (by omega) (by omega)]
 cases goodSp l with
 | false => simp
 | true =>
  rw [if_pos rfl]
  by_cases h0 : l.length = 0
  ·rw [if_pos (by omega)]
   simp [h0]
  ·rw [if_neg (by omega), if_pos (by omega), if_pos (by omega)]
   simp only [h0, decide_false, Bool.false_or, Bool.true_and]
theorem l2Has_l0 (l : List Sp) (n : Int) (hn : l.length ≤ 1048576) : ∀ (d k i : Nat), i + d = l.length → d < k → spec_l2Has.l0 k n l (l.length : Int) (i : Int) = some ((l.drop i).any (inSpan n)) := by
 intro d
 induction d with
 | zero =>
  intro k i h hk
  obtain ⟨k, rfl⟩ := round hk
  rw [spec_l2Has.l0, if_neg (by omega), List.drop_of_length_le (by omega)]
  rfl
 | succ d ih =>
  intro k i h hk
  obtain ⟨k, rfl⟩ := round hk
  have := ih k (i + 1) (by omega) (by omega)
  have e : ((i + 1 : Nat) : Int) = (i : Int) + 1 := by omega
  rw [e] at this
  rw [spec_l2Has.l0, if_pos (by omega), if_pos (by omega), if_pos (by omega), drop_rdSpan l i (by omega), List.any_cons, wrap_id (x := (i : Int) + 1) (by omega) (by omega), this]
  unfold inSpan
  by_cases h1 : n ≥ (rd_T69 l (i : Int)).f0
  ·by_cases h2 : n < (rd_T69 l (i : Int)).f1
   ·rw [if_pos h1, if_pos h2]
    simp [h1, h2]
   ·rw [if_pos h1, if_neg h2]
    simp [h2]
  ·rw [if_neg h1]
   simp [h1]
theorem l2Has (l : List Sp) (n : Int) (hn : l.length ≤ 1048576) (k : Nat) (hk : l.length < k) : spec_l2Has.f k l n = some (l.any (inSpan n)) := by
 unfold spec_l2Has.f
 have := l2Has_l0 l n hn l.length k 0 (by omega) hk
 simpa using this

end Go.Proofs.Ytenefihoegkliaa.Pure

namespace Go.Proofs.Ytenefihoegkliaa.Pure
open Go.RowKit Go.Proofs.Ytenefihoegkliaa.P Go.Proofs.YtenefihoegkliaaW.PrintWords Go.Proofs.YtenefihoegkliaaW.PrintLast Go.Proofs.Ytenefihoegkliaa.Opn
set_option linter.unusedVariables false
set_option linter.unusedSimpArgs false

theorem szBlock_ok (a b : Int) (t : ByteArray) (l : List S82) (x : Int) (hx : 0 ≤ x) (hx2 : x ≤ 1048576) (h : (t.size : Int) + l.length ≤ x) : laws_szBlock.f a b t l x = some (x - t.size - l.length) := by
 unfold laws_szBlock.f
 rw [wrap_id (x := x - (t.size : Int)) (by omega) (by omega), if_neg (by omega), szSpanS_ok l _ (by omega) (by omega) (by omega), Option.bind_some, if_neg (by omega)]
theorem szBlock_big (a b : Int) (t : ByteArray) (l : List S82) (x : Int) (hx : 0 ≤ x) (hx2 : x ≤ 1048576) (ht : t.size ≤ 9223372036854775807) (hl : l.length ≤ 9223372036854775807) (h : ¬ (t.size : Int) + l.length ≤ x) : laws_szBlock.f a b t l x = some (-1) := by
 unfold laws_szBlock.f
 rw [wrap_id (x := x - (t.size : Int)) (by omega) (by omega)]
 by_cases hc : (t.size : Int) ≤ x
 ·rw [if_neg (by omega), szSpanS_big l _ (by omega) (by omega) hl (by omega), Option.bind_some, if_pos (by omega)]
 ·rw [if_pos (by omega)]
theorem toBlock (a b : Int) (t : ByteArray) (l : List S82) (hn : l.length ≤ 1048576) (k : Nat) (hk : l.length < k) : laws_toBlock.f k a b t l = some (a, b, t, l.map cvSpan) := by
 unfold laws_toBlock.f
 rw [toSpanS l hn k hk, Option.bind_some]
theorem eqBlock (a b : Int) (t : ByteArray) (l : List Sp) (hn : l.length ≤ 1048576) (k : Nat) (hk : l.length < k) : laws_eqBlock.f k a b t l a b t l = some true := by
 unfold laws_eqBlock.f
 rw [if_pos rfl, if_pos rfl, if_pos rfl, eqSpanS l hn k hk, Option.bind_some, if_pos rfl]
theorem id_eq (a b : Int) : impl_isBlock.f a b = spec_l13Id.f a b := rfl
theorem blk_sim (n : Nat) (a : Int) (t : ByteArray) (l : List Sp) (hs : t.size = n) (hn : n ≤ 1048576) (hl : l.length ≤ 1048576) : ∀ (d k k' i : Nat), i + d = n → d + l.length + 1 < k → d < k' → ∃ b, spec_GoodBlock.l0 k (i : Int) a (n : Int) t l = some b ∧ impl_GoodBlock.l0 k' (n : Int) (i : Int) a (n : Int) t l = some b := by
 intro d
 induction d with
 | zero =>
  intro k k' i h hk hk'
  obtain ⟨k, rfl⟩ := round hk
  obtain ⟨k', rfl⟩ := round hk'
  exact ⟨true, by rw [spec_GoodBlock.l0, if_neg (by omega)], by rw [impl_GoodBlock.l0, if_neg (by omega)]⟩
 | succ d ih =>
  intro k k' i h hk hk'
  obtain ⟨k, rfl⟩ := round hk
  obtain ⟨k', rfl⟩ := round hk'
  obtain ⟨b, h1, h2⟩ := ih k k' (i + 1) (by omega) (by omega) (by omega)
  have e : ((i + 1 : Nat) : Int) = (i : Int) + 1 := by omega
  rw [e] at h1 h2
  have c1 : (i : Int) < (n : Int) := by omega
  have c2 : (0 : Int) ≤ (i : Int) := by omega
  have c3 : (i : Int) < (t.size : Int) := by omega
  rw [spec_GoodBlock.l0, impl_GoodBlock.l0]
  unfold impl_has.f
  simp only [c1, c2, c3, if_true, l2Has l _ hl k (by omega), Option.bind_some, wrap_id (x := (i : Int) + 1) (by omega) (by omega), h1, h2]
  by_cases hz : bt t (i : Int) = 0
  ·simp only [hz, if_true]
   exact ⟨b, rfl, rfl⟩
  ·simp only [hz, if_false]
   cases l.any (inSpan (i : Int)) with
   | true => exact ⟨b, rfl, rfl⟩
   | false => exact ⟨false, rfl, rfl⟩
theorem goodBlock_eq (a b : Int) (t : ByteArray) (l : List Sp) (ht : t.size ≤ 1048576) (hl : l.length ≤ 1048576) (k k' : Nat) (hk : 2097160 < k) (hk' : 2097160 < k') : ∃ r, spec_GoodBlock.f k a b t l = some r ∧ impl_GoodBlock.f k' a b t l = some r := by
 obtain ⟨k, rfl⟩ := round hk
 obtain ⟨k', rfl⟩ := round hk'
 unfold spec_GoodBlock.f impl_GoodBlock.f
 rw [id_eq]
 have hid : ∃ x, spec_l13Id.f a b = some x := by
  unfold spec_l13Id.f
  simp only [spec_in, Option.bind_some]
  split
  ·exact ⟨_, rfl⟩
  ·exact ⟨_, rfl⟩
 obtain ⟨x, hx⟩ := hid
 simp only [hx, Option.bind_some, spec_below l b hl (k + 1) (by omega), impl_below l b hl (k' + 1) (by omega), spec_GoodBlock.j0, impl_GoodBlock.j0, if_true]
 cases x with
 | false => exact ⟨false, rfl, rfl⟩
 | true =>
  simp only [if_true]
  by_cases hs : (t.size : Int) = b
  ·simp only [hs, if_true]
   cases belowSp l b with
   | false => exact ⟨false, rfl, rfl⟩
   | true =>
    simp only [Bool.not_true, Bool.false_eq_true, if_false]
    subst hs
    exact blk_sim t.size a t l rfl ht hl t.size k k' 0 (by omega) (by omega) (by omega)
  ·simp only [hs, if_false]
   exact ⟨false, rfl, rfl⟩

end Go.Proofs.Ytenefihoegkliaa.Pure

namespace Go.Proofs.Ytenefihoegkliaa.Pure
open Go.RowKit Go.Proofs.Ytenefihoegkliaa.P Go.Proofs.YtenefihoegkliaaW.PrintWords Go.Proofs.YtenefihoegkliaaW.PrintLast Go.Proofs.Ytenefihoegkliaa.Opn
set_option linter.unusedVariables false
set_option linter.unusedSimpArgs false

theorem l1Has_l0 (l : List Int) (a : Int) (hn : l.length ≤ 1048576) : ∀ (d k i : Nat), i + d = l.length → d < k → spec_l1Has.l0 k a l (l.length : Int) (i : Int) = some (decide (a ∈ l.drop i)) := by
 intro d
 induction d with
 | zero =>
  intro k i h hk
  obtain ⟨k, rfl⟩ := round hk
  simp only [spec_l1Has.l0]
  rw [if_neg (by omega), List.drop_of_length_le (by omega)]
  simp
 | succ d ih =>
  intro k i h hk
  obtain ⟨k, rfl⟩ := round hk
  simp only [spec_l1Has.l0]
  rw [if_pos (by omega), if_pos (by omega), if_pos (by omega), drop_rd l i (by omega)]
  by_cases hc : rd l (i : Int) = a
  ·rw [if_pos hc]
   simp [hc]
  ·rw [if_neg hc, wrap_id (by omega) (by omega)]
   have := ih k (i + 1) (by omega) (by omega)
   have hc' : ¬ a = rd l (i : Int) := fun e => hc e.symm
   simpa [hc'] using this
theorem l1Has (l : List Int) (a : Int) (hn : l.length ≤ 1048576) (k : Nat) (hk : l.length < k) : spec_l1Has.f k l a = some (decide (a ∈ l)) := by
 unfold spec_l1Has.f
 have := l1Has_l0 l a hn l.length k 0 (by omega) hk
 simpa using this
theorem index_l0 (l : List Int) (a : Int) (hn : l.length ≤ 1048576) : ∀ (d k i : Nat), i + d = l.length → d < k → ∃ r, slices_Index_int_int.l0 k l a (l.length : Int) (i : Int) = some r ∧ decide (r ≥ 0) = decide (a ∈ l.drop i) := by
 intro d
 induction d with
 | zero =>
  intro k i h hk
  obtain ⟨k, rfl⟩ := round hk
  refine ⟨-1, ?_, ?_⟩
  ·simp only [slices_Index_int_int.l0]
   rw [if_neg (by omega)]
  ·rw [List.drop_of_length_le (by omega)]
   simp
 | succ d ih =>
  intro k i h hk
  obtain ⟨k, rfl⟩ := round hk
  simp only [slices_Index_int_int.l0]
  rw [if_pos (by omega), if_pos (by omega), if_pos (by omega), drop_rd l i (by omega)]
  by_cases hc : a = rd l (i : Int)
  ·rw [if_pos hc]
   exact ⟨i, rfl, by simp [hc]⟩
  ·rw [if_neg hc, wrap_id (by omega) (by omega)]
   have := ih k (i + 1) (by omega) (by omega)
   simpa [hc] using this
theorem containsI (l : List Int) (a : Int) (hn : l.length ≤ 1048576) (k : Nat) (hk : l.length < k) : slices_Contains_int_int.f k l a = some (decide (a ∈ l)) := by
 unfold slices_Contains_int_int.f slices_Index_int_int.f
 obtain ⟨r, hr, hd⟩ := index_l0 l a hn l.length k 0 (by omega) hk
 have hr' : slices_Index_int_int.l0 k l a (l.length : Int) 0 = some r := by simpa using hr
 rw [hr', Option.bind_some, hd]
 simp

end Go.Proofs.Ytenefihoegkliaa.Pure

namespace Go.Proofs.Ytenefihoegkliaa.Pure
open Go.RowKit Go.Proofs.Ytenefihoegkliaa.P Go.Proofs.YtenefihoegkliaaW.PrintWords Go.Proofs.YtenefihoegkliaaW.PrintLast Go.Proofs.Ytenefihoegkliaa.Opn
set_option linter.unusedVariables false
set_option linter.unusedSimpArgs false

theorem toIntS_l0 (x : List Int) (hn : x.length ≤ 1048576) : ∀ (d k i : Nat) (y : List Int), i + d = x.length → d < k → y.length = x.length → y.take i = x.take i → laws_toIntS.l0 k x y (i : Int) = some x := by
 intro d
 induction d with
 | zero =>
  intro k i y hi hk hy ht
  obtain ⟨k, rfl⟩ := round hk
  simp only [laws_toIntS.l0]
  rw [if_neg (by omega)]
  have : i = x.length := by omega
  subst this
  rw [List.take_length, ← hy, List.take_length] at ht
  rw [ht]
 | succ d ih =>
  intro k i y hi hk hy ht
  obtain ⟨k, rfl⟩ := round hk
  simp only [laws_toIntS.l0]
  rw [if_pos (by omega), if_pos (by omega), if_pos (by omega), wrap_id (by omega) (by omega), Int.toNat_natCast]
  have := ih k (i + 1) (y.set i (rd x i)) (by omega) (by omega) (by simpa using hy) (by rw [take_set_succ _ _ (by omega), ht, take_rd _ _ (by omega)])
  simpa using this
theorem toIntS (x : List Int) (hn : x.length ≤ 1048576) (k : Nat) (hk : x.length < k) : laws_toIntS.f k x = some x := by
 unfold laws_toIntS.f
 rw [if_pos (by omega), if_pos (by omega), Int.toNat_natCast]
 exact toIntS_l0 x hn x.length k 0 _ (by omega) hk (by simp) (by simp)
theorem eqIntS_l0 (x y : List Int) (hn : x.length ≤ 1048576) (he : x.length = y.length) : ∀ (d k i : Nat), i + d = x.length → d < k → x.take i = y.take i → laws_eqIntS.l0 k x y (i : Int) = some (decide (x = y)) := by
 intro d
 induction d with
 | zero =>
  intro k i hi hk ht
  obtain ⟨k, rfl⟩ := round hk
  simp only [laws_eqIntS.l0]
  rw [if_neg (by omega)]
  have : i = x.length := by omega
  subst this
  rw [List.take_length, he, List.take_length] at ht
  simp [ht]
 | succ d ih =>
  intro k i hi hk ht
  obtain ⟨k, rfl⟩ := round hk
  simp only [laws_eqIntS.l0]
  rw [if_pos (by omega), if_pos (by omega), if_pos (by omega)]
  by_cases hc : rd x (i : Int) = rd y (i : Int)
  ·rw [if_pos hc, wrap_id (by omega) (by omega)]
   have := ih k (i + 1) (by omega) (by omega) (by rw [take_rd _ _ (by omega), take_rd _ _ (by omega), ht, hc])
   simpa using this
  ·rw [if_neg hc]
   have : x ≠ y := by rintro rfl; exact hc rfl
   simp [this]
theorem eqIntS (x y : List Int) (hn : x.length ≤ 1048576) (k : Nat) (hk : x.length < k) : laws_eqIntS.f k x y = some (decide (x = y)) := by
 unfold laws_eqIntS.f
 by_cases he : x.length = y.length
 ·rw [if_pos (by omega)]
  exact eqIntS_l0 x y hn he x.length k 0 (by omega) hk (by simp)
 ·rw [if_neg (by omega)]
  have : x ≠ y := by rintro rfl; exact he rfl
  simp [this]

end Go.Proofs.Ytenefihoegkliaa.Pure

namespace Go.Proofs.Ytenefihoegkliaa.Pure
open Go.RowKit Go.Proofs.Ytenefihoegkliaa.P Go.Proofs.YtenefihoegkliaaW.PrintWords Go.Proofs.YtenefihoegkliaaW.PrintLast Go.Proofs.Ytenefihoegkliaa.Opn
set_option linter.unusedVariables false
set_option linter.unusedSimpArgs false

theorem szIntS (l : List Int) (a : Int) (ha : 0 ≤ a) (ha2 : a ≤ 1048576) (hl : l.length ≤ 9223372036854775807) : laws_szIntS.f l a = some (if (l.length : Int) ≤ a then a - l.length else -1) := by
 unfold laws_szIntS.f
 rw [wrap_id (by omega) (by omega)]
 by_cases h : (l.length : Int) ≤ a
 ·rw [if_neg (by omega), if_pos h]
 ·rw [if_pos (by omega), if_neg h]

end Go.Proofs.Ytenefihoegkliaa.Pure

namespace Go.Proofs.Ytenefihoegkliaa.Pure
open Go.RowKit Go.Proofs.Ytenefihoegkliaa.P Go.Proofs.YtenefihoegkliaaW.PrintWords Go.Proofs.YtenefihoegkliaaW.PrintLast Go.Proofs.Ytenefihoegkliaa.Opn
set_option linter.unusedVariables false
set_option linter.unusedSimpArgs false

abbrev Bl := S30
abbrev BlL := S24
def cvBlock (b : BlL) : Bl := ⟨b.f0, b.f1, b.f2, b.f3.map cvSpan⟩
theorem rdBl (l : List Bl) (i : Nat) (h : i < l.length) : rd_T30 l (i : Int) = l[i] := by
 simp [rd_T30, List.getD_eq_getElem?_getD, List.getElem?_eq_getElem h]
theorem rdBlL (l : List BlL) (i : Nat) (h : i < l.length) : rd_T24 l (i : Int) = l[i] := by
 simp [rd_T24, List.getD_eq_getElem?_getD, List.getElem?_eq_getElem h]
theorem drop_rdBlL (l : List BlL) (i : Nat) (h : i < l.length) : l.drop i = rd_T24 l (i : Int) :: l.drop (i + 1) := by
 rw [List.drop_eq_getElem_cons h, rdBlL l i h]
theorem memBl (l : List Bl) (i : Nat) (h : i < l.length) : rd_T30 l (i : Int) ∈ l := by
 rw [rdBl l i h]
 exact List.getElem_mem h
theorem memBlL (l : List BlL) (i : Nat) (h : i < l.length) : rd_T24 l (i : Int) ∈ l := by
 rw [rdBlL l i h]
 exact List.getElem_mem h
theorem szBlS_l0 (l : List BlL) (hn : l.length ≤ 1048576) (hw : ∀ b ∈ l, b.f2.size ≤ 9223372036854775807 ∧ b.f3.length ≤ 9223372036854775807) : ∀ (d k i : Nat) (a : Int), i + d = l.length → d < k → 0 ≤ a → a ≤ 1048576 → ∃ v, laws_szBlockS.l0 k l a (i : Int) = some v ∧ (0 ≤ v → v ≤ a ∧ ∀ b ∈ l.drop i, (b.f2.size : Int) + b.f3.length ≤ a) := by
 intro d
 induction d with
 | zero =>
  intro k i a h hk h0 h1
  obtain ⟨k, rfl⟩ := round hk
  refine ⟨a, ?_, fun _ => ⟨Int.le_refl a, ?_⟩⟩
  ·rw [laws_szBlockS.l0, if_neg (by omega)]
  ·rw [List.drop_of_length_le (by omega)]
   intro q hq
   cases hq
 | succ d ih =>
  intro k i a h hk h0 h1
  obtain ⟨k, rfl⟩ := round hk
  have hm := hw _ (memBlL l i (by omega))
  have e : ((i + 1 : Nat) : Int) = (i : Int) + 1 := by omega
  rw [laws_szBlockS.l0, if_pos (by omega), if_pos (by omega), drop_rdBlL l i (by omega)]
  generalize rd_T24 l (i : Int) = b at hm ⊢
  by_cases hc : (b.f2.size : Int) + b.f3.length ≤ a
  ·rw [szBlock_ok b.f0 b.f1 b.f2 b.f3 a h0 h1 hc, Option.bind_some, if_neg (by omega), wrap_id (x := (i : Int) + 1) (by omega) (by omega), ← e]
   obtain ⟨v, e2, hv⟩ := ih k (i + 1) (a - b.f2.size - b.f3.length) (by omega) (by omega) (by omega) (by omega)
   refine ⟨v, e2, fun h2 => ?_⟩
   have := hv h2
   refine ⟨by omega, ?_⟩
   intro q hq
   rcases List.mem_cons.1 hq with rfl | hq
   ·exact hc
   ·have := this.2 q hq
    omega
  ·rw [szBlock_big b.f0 b.f1 b.f2 b.f3 a h0 h1 hm.1 hm.2 hc, Option.bind_some, if_pos (by omega)]
   exact ⟨-1, rfl, fun h2 => by omega⟩
theorem szStore (l : List BlL) (t : List Int) (hl : l.length ≤ 9223372036854775807) (hw : ∀ b ∈ l, b.f2.size ≤ 9223372036854775807 ∧ b.f3.length ≤ 9223372036854775807) (ht : t.length ≤ 9223372036854775807) (k : Nat) (hk : 1048576 < k) : ∃ v, laws_szStore.f k l t 1048576 = some v ∧ (0 ≤ v → l.length ≤ 1048576 ∧ t.length ≤ 1048576 ∧ ∀ b ∈ l, b.f2.size ≤ 1048576 ∧ b.f3.length ≤ 1048576) := by
 unfold laws_szStore.f laws_szBlockS.f
 rw [wrap_id (by omega) (by omega)]
 by_cases hc : (l.length : Int) ≤ 1048576
 ·rw [if_neg (by omega)]
  obtain ⟨v, e, hv⟩ := szBlS_l0 l (by omega) hw l.length k 0 (1048576 - l.length) (by omega) (by omega) (by omega) (by omega)
  rw [show ((0 : Nat) : Int) = 0 from rfl] at e
  rw [e, Option.bind_some]
  by_cases hv0 : v < 0
  ·rw [if_pos hv0]
   exact ⟨-1, rfl, fun h2 => by omega⟩
  ·have g := hv (by omega)
   rw [if_neg hv0, szIntS t v (by omega) (by omega) ht, Option.bind_some]
   by_cases h3 : (t.length : Int) ≤ v
   ·rw [if_pos h3, if_neg (by omega)]
    refine ⟨_, rfl, fun _ => ⟨by omega, by omega, fun b hb => ?_⟩⟩
    have := g.2 b (by simpa using hb)
    omega
   ·rw [if_neg h3, if_pos (by omega)]
    exact ⟨-1, rfl, fun h2 => by omega⟩
 ·rw [if_pos (by omega), Option.bind_some, if_pos (by omega)]
  exact ⟨-1, rfl, fun h2 => by omega⟩
theorem toBlS_l0 (x : List BlL) (hn : x.length ≤ 1048576) (hb : ∀ b ∈ x, b.f3.length ≤ 1048576) : ∀ (d k i : Nat) (y : List Bl), i + d = x.length → d + 1048576 < k → y.length = x.length → y.take i = (x.map cvBlock).take i → laws_toBlockS.l0 k x y (i : Int) = some (x.map cvBlock) := by
 intro d
 induction d with
 | zero =>
  intro k i y hi hk hy ht
  obtain ⟨k, rfl⟩ := round (d := 0) (k := k) (by omega)
  rw [laws_toBlockS.l0, if_neg (by omega)]
  rw [List.take_of_length_le (by omega), List.take_of_length_le (by simp; omega)] at ht
  rw [ht]
 | succ d ih =>
  intro k i y hi hk hy ht
  obtain ⟨k, rfl⟩ := round (d := 0) (k := k) (by omega)
  have e : ((i + 1 : Nat) : Int) = (i : Int) + 1 := by omega
  have hm := hb _ (memBlL x i (by omega))
  rw [laws_toBlockS.l0, if_pos (by omega), if_pos (by omega), toBlock _ _ _ _ hm k (by omega), Option.bind_some, if_pos (by omega), wrap_id (x := (i : Int) + 1) (by omega) (by omega), Int.toNat_natCast, ← e]
  refine ih k (i + 1) _ (by omega) (by omega) (by simpa using hy) ?_
  rw [take_set_succ _ _ (by omega), ht, List.take_succ_eq_append_getElem (by simp; omega), List.getElem_map, rdBlL x i (by omega)]
  rfl
theorem toStore (l : List BlL) (t : List Int) (hl : l.length ≤ 1048576) (ht : t.length ≤ 1048576) (hb : ∀ b ∈ l, b.f3.length ≤ 1048576) (k : Nat) (hk : 2097152 < k) : laws_toStore.f k l t = some (l.map cvBlock, t) := by
 unfold laws_toStore.f laws_toBlockS.f
 rw [if_pos (by omega), if_pos (by omega), Int.toNat_natCast]
 have := toBlS_l0 l hl hb l.length k 0 (List.replicate l.length z30) (by omega) (by omega) (by simp) (by simp)
 rw [show ((0 : Nat) : Int) = 0 from rfl] at this
 rw [this, Option.bind_some, toIntS t ht k (by omega), Option.bind_some]
theorem eqBlS_l0 (x : List Bl) (hn : x.length ≤ 1048576) (hb : ∀ b ∈ x, b.f3.length ≤ 1048576) : ∀ (d k i : Nat), i + d = x.length → d + 1048576 < k → laws_eqBlockS.l0 k x x (i : Int) = some true := by
 intro d
 induction d with
 | zero =>
  intro k i hi hk
  obtain ⟨k, rfl⟩ := round (d := 0) (k := k) (by omega)
  rw [laws_eqBlockS.l0, if_neg (by omega)]
 | succ d ih =>
  intro k i hi hk
  obtain ⟨k, rfl⟩ := round (d := 0) (k := k) (by omega)
  have e : ((i + 1 : Nat) : Int) = (i : Int) + 1 := by omega
  have hm := hb _ (memBl x i (by omega))
  rw [laws_eqBlockS.l0, if_pos (by omega), if_pos (by omega), if_pos (by omega), eqBlock _ _ _ _ hm k (by omega), Option.bind_some, if_pos rfl, wrap_id (x := (i : Int) + 1) (by omega) (by omega), ← e]
  exact ih k (i + 1) (by omega) (by omega)
theorem eqStore (l : List Bl) (t : List Int) (hl : l.length ≤ 1048576) (ht : t.length ≤ 1048576) (hb : ∀ b ∈ l, b.f3.length ≤ 1048576) (k : Nat) (hk : 2097152 < k) : laws_eqStore.f k l t l t = some true := by
 unfold laws_eqStore.f laws_eqBlockS.f
 have := eqBlS_l0 l hl hb l.length k 0 (by omega) (by omega)
 rw [show ((0 : Nat) : Int) = 0 from rfl] at this
 rw [if_pos rfl, this, Option.bind_some, if_pos rfl, eqIntS t t ht k (by omega), Option.bind_some, if_pos (by simp)]

end Go.Proofs.Ytenefihoegkliaa.Pure

namespace Go.Proofs.Ytenefihoegkliaa.Pure
open Go.RowKit Go.Proofs.Ytenefihoegkliaa.P Go.Proofs.YtenefihoegkliaaW.PrintWords Go.Proofs.YtenefihoegkliaaW.PrintLast Go.Proofs.Ytenefihoegkliaa.Opn
set_option linter.unusedVariables false
set_option linter.unusedSimpArgs false

theorem rise_same (t0 : List Bl) : ∀ (k : Nat) (t : List Int) (n i : Int), impl_GoodStore.l1 k t n i t0 t = spec_l11Rising.l0 k t 1001 t n i := by
 intro k
 induction k with
 | zero => intros; rw [impl_GoodStore.l1, spec_l11Rising.l0]
 | succ k ih =>
  intro t n i
  rw [impl_GoodStore.l1, spec_l11Rising.l0, ih, impl_in_, spec_in, wrap_id (x := 1001 - 1) (by omega) (by omega)]
  rfl
theorem rise_some (t : List Int) (hn : t.length ≤ 1048576) : ∀ (d k i : Nat), i + d = t.length → d < k → ∃ r, spec_l11Rising.l0 k t 1001 t (t.length : Int) (i : Int) = some r := by
 intro d
 induction d with
 | zero =>
  intro k i h hk
  obtain ⟨k, rfl⟩ := round hk
  rw [spec_l11Rising.l0, if_neg (by omega)]
  exact ⟨_, rfl⟩
 | succ d ih =>
  intro k i h hk
  obtain ⟨k, rfl⟩ := round hk
  have e : ((i + 1 : Nat) : Int) = (i : Int) + 1 := by omega
  obtain ⟨r, hr⟩ := ih k (i + 1) (by omega) (by omega)
  rw [e] at hr
  rw [spec_l11Rising.l0, if_pos (by omega), if_pos (by omega), if_pos (by omega), spec_in, Option.bind_some, wrap_id (x := (i : Int) + 1) (by omega) (by omega), hr]
  split
  ·by_cases hi : (i : Int) > 0
   ·rw [if_pos hi, wrap_id (x := (i : Int) - 1) (by omega) (by omega), if_pos (by omega), if_pos (by omega)]
    split <;> exact ⟨_, rfl⟩
   ·rw [if_neg hi]
    exact ⟨_, rfl⟩
  ·exact ⟨_, rfl⟩
theorem rise_fix (t : List Int) (hn : t.length ≤ 1048576) : ∃ R, ∀ k, t.length < k → spec_l11Rising.f k t 1001 = some R := by
 obtain ⟨R, hR⟩ := rise_some t hn t.length (t.length + 1) 0 (by omega) (by omega)
 have h0 : spec_l11Rising.f (t.length + 1) t 1001 = some R := hR
 have hm : ∀ d, spec_l11Rising.f (t.length + 1 + d) t 1001 = some R := by
  intro d
  induction d with
  | zero => exact h0
  | succ d ih =>
   have hmono : LeO (spec_l11Rising.f (t.length + 1 + d) t 1001) (spec_l11Rising.f (t.length + 1 + d + 1) t 1001) := by apply spec_l11Rising.mono
   exact hmono _ ih
 refine ⟨R, fun k hk => ?_⟩
 have := hm (k - (t.length + 1))
 rw [show t.length + 1 + (k - (t.length + 1)) = k by omega] at this
 exact this
def lenV (l : List Sp) (a : Int) : Int := l.foldl (fun a x => wrap64 (a + wrap64 (x.f1 - x.f0))) a
theorem len_same : ∀ (k : Nat) (a : Int) (l : List Sp) (n i : Int), impl_length.l0 k a l n i = spec_l2Length.l0 k a l n i := by
 intro k
 induction k with
 | zero => intros; rfl
 | succ k ih => intros; simp only [impl_length.l0, spec_l2Length.l0, ih]
theorem len_val (l : List Sp) (hn : l.length ≤ 1048576) : ∀ (d k i : Nat) (a : Int), i + d = l.length → d < k → spec_l2Length.l0 k a l (l.length : Int) (i : Int) = some (lenV (l.drop i) a) := by
 intro d
 induction d with
 | zero =>
  intro k i a h hk
  obtain ⟨k, rfl⟩ := round hk
  rw [spec_l2Length.l0, if_neg (by omega), List.drop_of_length_le (by omega)]
  rfl
 | succ d ih =>
  intro k i a h hk
  obtain ⟨k, rfl⟩ := round hk
  have e : ((i + 1 : Nat) : Int) = (i : Int) + 1 := by omega
  rw [spec_l2Length.l0, if_pos (by omega), if_pos (by omega), if_pos (by omega), wrap_id (x := (i : Int) + 1) (by omega) (by omega), ← e, ih k (i + 1) _ (by omega) (by omega), List.drop_eq_getElem_cons (show i < l.length by omega)]
  have : rd_T69 l (i : Int) = l[i]'(by omega) := by
   simp [rd_T69, List.getD_eq_getElem?_getD, List.getElem?_eq_getElem (show i < l.length by omega)]
  rw [this]
  rfl
theorem done_s (b : Bl) (h : b.f3.length ≤ 1048576) (k : Nat) (hk : 1048577 < k) : spec_l13Done.f k b.f0 b.f1 b.f2 b.f3 = some (lenV b.f3 0 == b.f1) := by
 unfold spec_l13Done.f spec_l2Length.f
 have := len_val b.f3 h b.f3.length k 0 0 (by omega) (by omega)
 rw [show ((0 : Nat) : Int) = 0 from rfl, List.drop_zero] at this
 rw [this, Option.bind_some]
theorem done_i (b : Bl) (h : b.f3.length ≤ 1048576) (k : Nat) (hk : 1048577 < k) : impl_Span_82.f k b.f0 b.f1 b.f2 b.f3 = some (lenV b.f3 0 == b.f1) := by
 unfold impl_Span_82.f impl_length.f
 have := len_val b.f3 h b.f3.length k 0 0 (by omega) (by omega)
 rw [show ((0 : Nat) : Int) = 0 from rfl, List.drop_zero] at this
 rw [len_same, this, Option.bind_some]
theorem store_sim (l : List Bl) (t : List Int) (hl : l.length ≤ 1048576) (ht : t.length ≤ 1048576) (hb : ∀ b ∈ l, b.f2.size ≤ 1048576 ∧ b.f3.length ≤ 1048576) (R : Bool) (hR : ∀ k, t.length < k → spec_l11Rising.f k t 1001 = some R) :
  ∀ (d k k' i : Nat), i + d = l.length → d + 3000000 < k → d + 3000000 < k' → ∃ v, spec_GoodStore.l0 k l (l.length : Int) (i : Int) l t = some (v && (decide ((l.length : Int) ≤ 10) && (decide ((t.length : Int) ≤ 100) && R))) ∧ impl_GoodStore.l0 k' l (l.length : Int) (i : Int) l t = some (v && R) := by
 intro d
 induction d with
 | zero =>
  intro k k' i h hk hk'
  obtain ⟨k, rfl⟩ := round (d := 0) (k := k) (by omega)
  obtain ⟨k', rfl⟩ := round (d := 0) (k := k') (by omega)
  refine ⟨true, ?_, ?_⟩
  ·rw [spec_GoodStore.l0, if_neg (by omega), hR k (by omega)]
   by_cases h1 : (l.length : Int) ≤ 10
   ·by_cases h2 : (t.length : Int) ≤ 100
    ·simp [h1, h2]
    ·simp [h1, h2]
   ·simp [h1]
  ·rw [impl_GoodStore.l0, if_neg (by omega), rise_same]
   have := hR k' (by omega)
   unfold spec_l11Rising.f at this
   rw [this, Bool.true_and]
 | succ d ih =>
  intro k k' i h hk hk'
  obtain ⟨k, rfl⟩ := round (d := 0) (k := k) (by omega)
  obtain ⟨k', rfl⟩ := round (d := 0) (k := k') (by omega)
  have e : ((i + 1 : Nat) : Int) = (i : Int) + 1 := by omega
  obtain ⟨v, hv1, hv2⟩ := ih k k' (i + 1) (by omega) (by omega) (by omega)
  rw [e] at hv1 hv2
  have hm := hb _ (memBl l i (by omega))
  obtain ⟨g, hg1, hg2⟩ := goodBlock_eq (rd_T30 l (i : Int)).f0 (rd_T30 l (i : Int)).f1 (rd_T30 l (i : Int)).f2 (rd_T30 l (i : Int)).f3 hm.1 hm.2 k k' (by omega) (by omega)
  have hA : (i : Int) < (l.length : Int) := by omega
  have hB : 0 ≤ (i : Int) := by omega
  rw [spec_GoodStore.l0, if_pos hA, if_pos hB, if_pos hA, impl_GoodStore.l0, if_pos hA, if_pos hB, if_pos hA, hg1, hg2, done_s _ hm.2 k (by omega), done_i _ hm.2 k' (by omega), l1Has t _ ht k (by omega), containsI t _ ht k' (by omega), wrap_id (x := (i : Int) + 1) (by omega) (by omega), wrap_id (x := (i : Int) - 1) (by omega) (by omega), hv1, hv2]
  simp only [Option.bind_some]
  generalize (lenV (rd_T30 l (i : Int)).f3 0 == (rd_T30 l (i : Int)).f1) = dv
  generalize decide ((rd_T30 l (i : Int)).f0 ∈ t) = hs
  cases g with
  | false => exact ⟨false, by simp, by simp⟩
  | true =>
   cases dv with
   | true => exact ⟨false, by simp, by simp⟩
   | false =>
    simp only [if_true, Bool.false_eq_true, if_false]
    by_cases hi : (i : Int) > 0
    ·have a1 : 0 ≤ (i : Int) - 1 := by omega
     have a2 : (i : Int) - 1 < (l.length : Int) := by omega
     simp only [if_pos hi, if_pos a1, if_pos a2]
     by_cases hp : (rd_T30 l (i : Int)).f0 ≤ (rd_T30 l ((i : Int) - 1)).f0
     ·have hp' : (rd_T30 l ((i : Int) - 1)).f0 ≥ (rd_T30 l (i : Int)).f0 := hp
      rw [if_pos hp, if_pos hp']
      cases hs with
      | true => exact ⟨false, by simp, by simp⟩
      | false => exact ⟨false, by simp, by simp⟩
     ·have hp' : ¬ (rd_T30 l ((i : Int) - 1)).f0 ≥ (rd_T30 l (i : Int)).f0 := hp
      rw [if_neg hp, if_neg hp']
      cases hs with
      | true => exact ⟨false, by simp, by simp⟩
      | false => exact ⟨v, by simp, by simp⟩
    ·simp only [if_neg hi]
     cases hs with
     | true => exact ⟨false, by simp, by simp⟩
     | false => exact ⟨v, by simp, by simp⟩
theorem both_store (l : List Bl) (t : List Int) (hl : l.length ≤ 1048576) (ht : t.length ≤ 1048576) (hb : ∀ b ∈ l, b.f2.size ≤ 1048576 ∧ b.f3.length ≤ 1048576) (k : Nat) (hk : 5000000 < k) : ∃ q, spec_GoodStore.f k l t = some q ∧ impl_GoodStore.f k l t = some q := by
 obtain ⟨k, rfl⟩ := round (d := 0) (k := k) (by omega)
 obtain ⟨R, hR⟩ := rise_fix t ht
 obtain ⟨v, h1, h2⟩ := store_sim l t hl ht hb R hR l.length (k + 1) k 0 (by omega) (by omega) (by omega)
 rw [show ((0 : Nat) : Int) = 0 from rfl] at h1 h2
 refine ⟨_, h1, ?_⟩
 unfold impl_GoodStore.f
 rw [impl_GoodStore.j0, impl_GoodStore.j0, h2]
 by_cases c1 : (l.length : Int) ≤ 10
 ·rw [if_neg (show ¬ (l.length : Int) > 10 by omega)]
  by_cases c2 : (t.length : Int) ≤ 100
  ·rw [decide_eq_false (show ¬ (t.length : Int) > 100 by omega)]
   simp [c1, c2]
  ·rw [decide_eq_true (show (t.length : Int) > 100 by omega)]
   simp [c2]
 ·rw [if_pos (show (l.length : Int) > 10 by omega)]
  simp [c1]
theorem FnExactGoodStore : laws_FnExactGoodStore.Pure := by
 intro l t h1 h2
 obtain ⟨k, hk⟩ : ∃ k : Nat, 6000000 < k := ⟨6000001, by omega⟩
 refine ⟨k, ?_⟩
 obtain ⟨v, e, hv⟩ := szStore l t h1.1 (fun b hb => by
  have := h1.2 b hb
  exact ⟨this.2.2.1, this.2.2.2.1⟩) h2.1 k (by omega)
 unfold laws_FnExactGoodStore.f
 rw [e, Option.bind_some]
 by_cases hs : v < 0
 ·rw [if_pos hs]
 ·obtain ⟨g1, g2, g3⟩ := hv (by omega)
  have m1 : (l.map cvBlock).length ≤ 1048576 := by rw [List.length_map]; exact g1
  have m2 : ∀ b ∈ l.map cvBlock, b.f2.size ≤ 1048576 ∧ b.f3.length ≤ 1048576 := by
   intro b hb
   obtain ⟨x, hx, rfl⟩ := List.mem_map.1 hb
   have := g3 x hx
   exact ⟨this.1, by show (x.f3.map cvSpan).length ≤ _; rw [List.length_map]; exact this.2⟩
  obtain ⟨q, q1, q2⟩ := both_store (l.map cvBlock) t m1 g2 m2 k (by omega)
  rw [if_neg hs]
  simp only [toStore l t g1 g2 (fun b hb => (g3 b hb).2) k (by omega), Option.bind_some, q1, q2, bne_self_eq_false, Bool.false_eq_true, if_false, eqStore (l.map cvBlock) t m1 g2 (fun b hb => (m2 b hb).2) k (by omega), if_true]

end Go.Proofs.Ytenefihoegkliaa.Pure

namespace Go.Proofs.Ytenefihoegkliaa.fnExactGoodStore
open Go.ChangeShapes Go.WideShapes Go.ChangeAt Go.RowKit Go.Proofs.Ytenefihoegkliaa.P Go.Proofs.Ytenefihoegkliaa.Opn Go.Proofs.YtenefihoegkliaaW.PrintWords
open Go.ChangeMaps (open_string shut_string)
set_option linter.unusedVariables false
theorem own : ownKnob Try.prog.godebug = none := by kernel_rfl
theorem laidOut : laidOutB Try.prog = true := by kernel_rfl
set_option maxRecDepth 100000 in
theorem lifted (os : Os) (started : os.Started) (H : Type) (enc : TypeId × Value → H) :
  ReturnsInHanded {} Try.checked os 6 .any (Rows.fnExactGoodStoreSpec.pre6 enc Try.prog Try.f6 Rows.fnExactGoodStoreRow.domain false) (Rows.fnExactGoodStoreSpec.post enc Try.prog Try.f6 false true false false) := by
 refine returnsInHanded_of_change_sized (C := Try.checked) own started (by kernel_rfl) Try.func6
  (ChangeSpec.witness6 (enc := enc) (C := Try.checked) false ⟨#[], #[.agg #[.slice none 0 0, .slice none 0 0]], []⟩ 8 (by kernel_rfl) (by kernel_rfl) (by kernel_rfl) (by kernel_rfl)) ?_
 intro W base args ds gs before hval0 hW hcnd hsz0 _
 have hval : ∀ (j : Nat) t v, Try.f6.params[j]? = some t → args[j]? = some v → Value.okWide Try.prog W .any base t v := hval0
 have hW' := hW
 obtain ⟨p, q, hA0, hV, rfl, hfz, hnd⟩ := hW
 have hA : DataW.TrodAll enc Try.prog W 0 (fun _ => true) true Try.f6.params.toList args.toList ds p := hA0
 rw [Try.params6] at hA hval
 obtain ⟨v0, vs0, d0, ds0, p0, q0, hargs, rfl, rfl, h0, r0⟩ := trodAll_cons hA
 obtain ⟨rfl, rfl, rfl⟩ := trodAll_nil r0
 obtain rfl : args = #[v0] := by cases args; simp_all
 obtain ⟨rfl, rfl⟩ := trodVars_none hV
 have k0 := h0
 have lt0 : ∀ x ∈ p0, x.block < W.heap.size := by obtain ⟨m, hm⟩ := k0; exact DataW.trod_lt m _ _ _ hm
 obtain ⟨fuel0, hf0⟩ := h0
 obtain ⟨y0, hK0, hw0⟩ := opens49.out enc W fuel0 _ _ hf0
 obtain ⟨cs0, rfl, _⟩ := okWide_struct Try.underlying49 (hval 0 49 v0 rfl rfl)
 obtain ⟨A0_0, c0_0, A0_1, c0_1, hcs0, hc0_0, hr0_0, hc0_1, hr0_1⟩ := k49_open hK0
 obtain rfl : cs0 = #[.slice A0_0 y0.f0.length c0_0, .slice A0_1 y0.f1.length c0_1] := by simpa [Value.cells, ← Array.toList_inj] using hcs0
 obtain ⟨k_, hP⟩ := Pure.FnExactGoodStore y0.f0 y0.f1 hw0.1 hw0.2
 refine (laws_FnExactGoodStore.calls k_ _ _ y0.f0 _ _ y0.f1 true W hr0_0 hc0_0 hr0_1 hc0_1 hP).mono fun e W' he => ?_
 obtain ⟨rfl, hd⟩ := he
 have bel : Below W.heap.size W W' := hd
 exact ⟨_, rfl, _, _, _, [], _, [], hW', trodAll_mk1 (shut_bool Try.underlying4 _), (trodAll_cons_mk (Below.trod laidOut (by kernel_rfl) (of_decide_eq_true (by kernel_rfl)) k0 bel lt0) trodAll_mk0), rfl, bel.frame _, fun h => by cases h⟩
theorem over : Rows.fnExactGoodStoreRow.holds Try.pinned (OpenSpec.ofChange Rows.fnExactGoodStoreSpec) :=
 OpenClaim.holds_of_wide 6 Try.f6 rfl rfl rfl rfl rfl rfl rfl ⟨rfl, rfl, rfl, rfl, rfl⟩ rfl rfl rfl rfl rfl (by kernel_rfl) Try.func6 (by kernel_rfl)
  (of_decide_eq_true (by kernel_rfl)) (by unfold Func.isWrapper; first | (rw [if_pos (by decide +kernel)]; kernel_rfl) | (rw [if_neg (by decide +kernel)]; exact ⟨rfl, rfl⟩))
  (fun os started H enc _ => lifted os started H enc)
end Go.Proofs.Ytenefihoegkliaa.fnExactGoodStore
namespace Go.Proofs.Ytenefihoegkliaa
/-- The row. -/
theorem fnExactGoodStore_holds : Rows.FnExactGoodStoreSaid := fnExactGoodStore.over
#print axioms fnExactGoodStore_holds
end Go.Proofs.Ytenefihoegkliaa
