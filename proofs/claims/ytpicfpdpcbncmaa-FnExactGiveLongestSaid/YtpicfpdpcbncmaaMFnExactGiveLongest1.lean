/- FnExactGiveLongest: for every input that can be read, the law returns true and its arguments read as before. Conditions: none beyond the row's own. (Part 2 of 2: contracts made by pw.py with the kit's print, contracts by hand, plain laws, the row.) -/
import Derived.Test.YtpicfpdpcbncmaaMFnExactGiveLongest0
import Derived.Shelf.SlSortCmp.Insertion1
import Derived.Shelf.SlSortCmp.NoneTotal
import Derived.Deep.QuietTactic
import Derived.BigQuiet
import Derived.Test.YtpicfpdpcbncmaaWWords
import Derived.ChangeArms
import Derived.ChangeSame
import Derived.ChangeSlices
import Derived.WideShapes
import Derived.ProofKit
import Derived.KernelRfl
import Derived.Sort.LotA
import Derived.Test.YtpicfpdpcbncmaaRows
import Derived.WalkKit
import Derived.OpenShut
import Derived.ShutString
import Derived.ChangeOld
import Derived.Below
import Derived.SizedLaws
import Derived.Carry

namespace Go.Proofs.Ytpicfpdpcbncmaa.P
open Go.RowKit Go.Proofs.YtpicfpdpcbncmaaW.PrintWords Go.Proofs.YtpicfpdpcbncmaaW.PrintLast Go.Proofs.YtpicfpdpcbncmaaW.PrintMore
attribute [local go_sem] max2_int min2_int max_two min_two max_three min_three max_four min_four
set_option linter.unusedVariables false
set_option linter.unusedSimpArgs false

/-! ### impl_give: function 40 -/
def impl_give.l0 : Nat → List Int → List Int → List Int → List Int → Int → Int → Option (List Int × Int × Bool)
  | 0, _, _, _, _, _, _ => none
  | k + 1, x0, x9, x10, x19, x20, x21 => if x21 < x20 then (if 0 ≤ x21 then (if x21 < (x19.length : Int) then ((slices_Min_int_int.f x10).bind fun t108 => ((slices_Index_int_int.f k x10 t108).bind fun t109 => (if 0 ≤ (rd x19 x21) then (if (rd x19 x21) < (x9.length : Int) then (if 0 ≤ t109 then (if t109 < (x10.length : Int) then (if (rd x19 x21) < (x0.length : Int) then (impl_give.l0 k x0 (x9.set ((rd x19 x21) : Int).toNat t109) (x10.set (t109 : Int).toNat (wrap64 ((rd x10 t109) + (rd x0 (rd x19 x21))))) x19 x20 (wrap64 (x21 + 1))) else (none)) else (none)) else (none)) else (none)) else (none)))) else (none)) else (none)) else ((slices_Max_int_int.f x10).bind fun t114 => (some (x9, t114, true)))
def impl_give.f (k : Nat) (l0 : List Int) (a1 : Int) (l2 : List Int) : Option (List Int × Int × Bool) := if 0 ≤ (l0.length : Int) then (if ((l0.length : Int) : Int).toNat ≤ 35184372088832 then (if 0 ≤ a1 then (if (a1 : Int).toNat ≤ 35184372088832 then (impl_give.l0 k l0 (List.replicate ((l0.length : Int) : Int).toNat 0) (List.replicate (a1 : Int).toNat 0) l2 (l2.length : Int) 0) else (none)) else (none)) else (none)) else (none)
theorem impl_give.mono_l : ∀ k, (∀ y0 y1 y2 y3 y4 y5, LeO (impl_give.l0 k y0 y1 y2 y3 y4 y5) (impl_give.l0 (k + 1) y0 y1 y2 y3 y4 y5))
  | 0 => fun _ _ _ _ _ _ r h => by simp [impl_give.l0] at h
  | k + 1 => by
    have ih0 := impl_give.mono_l k
    · intro y0 y1 y2 y3 y4 y5
      unfold impl_give.l0
      repeat' first
      | (with_reducible exact ih0 _ _ _ _ _ _)
      | (with_reducible exact slices_Index_int_int.mono _ _ _)
      | (with_reducible exact LeO.refl _)
      | (with_reducible exact LeO.none _)
      | (with_reducible refine LeO.ite ?_ ?_)
      | (with_reducible refine LeO.bind ?_ (fun _ => ?_))
      | exact ih0 _ _ _ _ _ _
      | exact slices_Index_int_int.mono _ _ _
      | exact LeO.none _
      | refine LeO.ite ?_ ?_
      | refine LeO.bind ?_ (fun _ => ?_)
theorem impl_give.mono : ∀ a0 a1 a2 k, LeO (impl_give.f k a0 a1 a2) (impl_give.f (k + 1) a0 a1 a2) := by
  intro a0 a1 a2 k
  have ih0 := impl_give.mono_l k
  unfold impl_give.f
  repeat' first
      | (with_reducible exact ih0 _ _ _ _ _ _)
      | (with_reducible exact slices_Index_int_int.mono _ _ _)
      | (with_reducible exact LeO.refl _)
      | (with_reducible exact LeO.none _)
      | (with_reducible refine LeO.ite ?_ ?_)
      | (with_reducible refine LeO.bind ?_ (fun _ => ?_))
      | exact ih0 _ _ _ _ _ _
      | exact slices_Index_int_int.mono _ _ _
      | exact LeO.none _
      | refine LeO.ite ?_ ?_
      | refine LeO.bind ?_ (fun _ => ?_)
def impl_give.T7 : Bool × List (List Nat × List Nat) := (true, [([], []), ([], []), ([0, 1], [0, 1]), ([2], [2]), ([], []), ([], []), ([4, 5], [4, 5]), ([6], [6]), ([3, 7], [3, 7]), ([0, 1, 0, 1, 2, 3, 4, 5, 6, 7, 8], [0, 1]), ([9, 8, 0, 1, 2, 3, 4, 5, 6, 7, 8], [8, 9])])
def impl_give.B7 : List Nat := [0, 0, 3, 7, 0, 0, 48, 112, 255, 511, 1023]
theorem impl_give.tab7 : rtab .any (opsOf Try.f40 7) = impl_give.T7 := by kernel_rfl
theorem impl_give.bits7 : waitsOk impl_give.T7.2 impl_give.B7 = true := by kernel_rfl
set_option maxHeartbeats 8000000 in
set_option maxRecDepth 100000 in
theorem impl_give.calls (k : Nat) (A0 : Option Addr) (c0 : Nat) (l0 : List Int) (a1 : Int) (A2 : Option Addr) (c2 : Nat) (l2 : List Int) (r1 : List Int) (r2 : Int) (r3 : Bool) (w : World) (hr0 : Kd.C (Kd.int .i64) w A0 l0.length l0) (hc0 : l0.length ≤ c0) (hr2 : Kd.C (Kd.int .i64) w A2 l2.length l2) (hc2 : l2.length ≤ c2) (h : impl_give.f k l0 a1 l2 = some (r1, r2, r3)) :
    Calls Try.prog 40 #[.slice A0 l0.length c0, .int .i64 a1, .slice A2 l2.length c2] w fun e w' => ∃ v0_ : Value, e = .returned (.tuple #[v0_, .int .i64 r2, .bool r3]) ∧ Kd.R (Kd.int .i64) 3 w' w.heap.size (fun _ => True) v0_ r1 ∧ Below w.heap.size w w' := by
  have HR0 := Aside0.mk hr0
  have HC0 := Aside0.mk hc0
  clear hr0 hc0
  have HR2 := Aside0.mk hr2
  have HC2 := Aside0.mk hc2
  clear hr2 hc2
  have HB := Aside0.mk (Below.refl w.heap.size w)
  have H : (if 0 ≤ (l0.length : Int) then (if ((l0.length : Int) : Int).toNat ≤ 35184372088832 then (if 0 ≤ a1 then (if (a1 : Int).toNat ≤ 35184372088832 then (impl_give.l0 k l0 (List.replicate ((l0.length : Int) : Int).toNat 0) (List.replicate (a1 : Int).toNat 0) l2 (l2.length : Int) 0) else (none)) else (none)) else (none)) else (none)) = some (r1, r2, r3) := h
  clear h
  by_cases c4 : 0 ≤ (l0.length : Int)
  · rw [if_pos c4] at H
    have c4b0 := eq_true c4
    have c4b1 : decide (0 ≤ (l0.length : Int)) = true := decide_eq_true c4
    clear c4
    by_cases c5 : ((l0.length : Int) : Int).toNat ≤ 35184372088832
    · rw [if_pos c5] at H
      have c5b0 := eq_true c5
      have c5b1 : decide (((l0.length : Int) : Int).toNat ≤ 35184372088832) = true := decide_eq_true c5
      clear c5
      obtain ⟨y101, hy101⟩ : ∃ y_ : List Int, y_ = (List.replicate ((l0.length : Int) : Int).toNat 0) := ⟨_, rfl⟩
      replace H : (if 0 ≤ a1 then (if (a1 : Int).toNat ≤ 35184372088832 then (impl_give.l0 k l0 y101 (List.replicate (a1 : Int).toNat 0) l2 (l2.length : Int) 0) else (none)) else (none)) = some (r1, r2, r3) := by first | (rw [hy101]; with_reducible exact H) | (have H2_ := (Option.bind_some _ _).symm.trans H; rw [hy101]; with_reducible exact H2_) | (have H2_ := (Option.bind_some _ _).symm.trans H; with_reducible exact H2_) | with_reducible exact H | (rw [hy101]; exact H) | exact H
      have Ny101 := Aside0.mk hy101
      clear hy101
      by_cases c6 : 0 ≤ a1
      · rw [if_pos c6] at H
        have c6b0 := eq_true c6
        have c6b1 : decide (0 ≤ a1) = true := decide_eq_true c6
        clear c6
        by_cases c7 : (a1 : Int).toNat ≤ 35184372088832
        · rw [if_pos c7] at H
          have c7b0 := eq_true c7
          have c7b1 : decide ((a1 : Int).toNat ≤ 35184372088832) = true := decide_eq_true c7
          clear c7
          obtain ⟨y104, hy104⟩ : ∃ y_ : List Int, y_ = (List.replicate (a1 : Int).toNat 0) := ⟨_, rfl⟩
          replace H : (impl_give.l0 k l0 y101 y104 l2 (l2.length : Int) 0) = some (r1, r2, r3) := by first | (rw [hy104]; with_reducible exact H) | (have H2_ := (Option.bind_some _ _).symm.trans H; rw [hy104]; with_reducible exact H2_) | (have H2_ := (Option.bind_some _ _).symm.trans H; with_reducible exact H2_) | with_reducible exact H | (rw [hy104]; exact H) | exact H
          have Ny104 := Aside0.mk hy104
          clear hy104
          have H' := Aside0.mk H
          clear H
          go_enter Try.func40, Try.ntmps40
          try go_wp2
          have n0_ := Aside0.mk (below_drew1 HB.out)
          clear HB
          have HB := n0_
          clear n0_
          refine start_ (n := 7) (S := fun w' => True) (ds := []) #[false, false, false, false, false, false, false] (by kernel_rfl) rfl rfl trivial (fun hHeld => ?_)
          generalize w.drew = w8 at HB hHeld ⊢
          refine pure_ (i := 0) (N := some 14) (v := ?_) (a' := ?_) #[true, false, false, false, false, false, false] rfl rfl (by kernel_rfl) (fun _ _ _ h => h) (Or.inl ⟨by rfl, ?_⟩) ?_ ?_
          rotate_left
          · intro w'
            go_simp
            with_reducible rfl
          rotate_left
          · simp only [Act.put, List.setIfInBounds_toArray, List.set_cons_zero, List.set_cons_succ, i64_w, i32_w]
            rfl
          refine pure_ (i := 1) (N := some 15) (v := ?_) (a' := ?_) #[true, true, false, false, false, false, false] rfl rfl (by kernel_rfl) (fun _ _ _ h => h) (Or.inl ⟨by rfl, ?_⟩) ?_ ?_
          rotate_left
          · intro w'
            go_simp
            with_reducible rfl
          rotate_left
          · simp only [Act.put, List.setIfInBounds_toArray, List.set_cons_zero, List.set_cons_succ, i64_w, i32_w]
            rfl
          refine pure_ (i := 3) (N := some 17) (v := ?_) (a' := ?_) #[true, true, false, true, false, false, false] rfl rfl (by kernel_rfl) (fun _ _ _ h => h) (Or.inl ⟨by rfl, ?_⟩) ?_ ?_
          rotate_left
          · intro w'
            go_simp
            with_reducible rfl
          rotate_left
          · simp only [Act.put, List.setIfInBounds_toArray, List.set_cons_zero, List.set_cons_succ, i64_w, i32_w]
            rfl
          refine join_ (σ := Value × Value) 1 #[true, true, true, true, true, true, false] (fun s_ => [(16, s_.1), (18, s_.2), (9, s_.1)]) (fun s_ w' => (Kd.R (Kd.int .i64) 3 w' w.heap.size (fun k_ => some k_ ≠ (s_.2 : Value).ownBlock) s_.1 y101) ∧ (Kd.R (Kd.int .i64) 3 w' w.heap.size (fun k_ => some k_ ≠ (s_.1 : Value).ownBlock) s_.2 y104) ∧ (Below w.heap.size w w')) ?_ ?_
          rotate_left
          · intro hCont
            refine two_ (i := 2) (j := 4) (Ni := some 16) (Nj := some 18) #[true, true, true, true, false, false, false] #[true, true, false, true, true, false, false] rfl rfl rfl rfl (by kernel_rfl) (by decide) (by decide) (fun K hK => ?_) (fun K hK => ?_)
            · skip
              refine Kd.R_make_step (Kd.int .i64) _ 3 (by rfl) (N := 16) rfl 22 _ _ rfl (l0.length : Int) rfl rfl Try.underlying22 (.int .i64 0) 8 info3 rfl (by decide) (by omega) 0 (ok := fun _ => True) (okp := fun _ => True) rfl (fun _ hk => hk) trivial (of_decide_eq_true (by first | (with_reducible assumption) | assumption)) (Nat.le_trans (Nat.mul_le_mul_right _ (of_decide_eq_true (by first | (with_reducible assumption) | assumption) : (l0.length : Int).toNat ≤ 35184372088832)) (by omega)) (Below.refl _ _) (Nat.le_refl _) ?_
              intro v102 w9 ho10 hb hg_ hnew_
              clear hg_ hnew_
              (first | rw [← Ny101.out] at ho10 | (simp only [Int.reduceToNat] at ho10; rw [← Ny101.out] at ho10))
              have n0_ := Aside0.mk (Kd.R_lower ho10 (below_size (by repeat (first | (with_reducible first | exact HB.out | apply below_alloc | apply pw_below_drewN | apply below_drew1) | exact HB.out))))
              have n1_ := Aside0.mk (below_step (by repeat (first | (with_reducible first | exact HB.out | apply below_alloc | apply pw_below_drewN | apply below_drew1) | exact HB.out)) hb)
              clear HB
              have HO103 := n0_
              have HB := n1_
              clear n0_ n1_
              clear hb ho10
              refine hK.out _ _ trivial (fun hHeld => ?_)
              clear hK K
              refine norm_ (a' := ?_) ?_ ?_
              rotate_left
              · show Act.put _ (some 16) _ = _
                simp only [Act.put, List.setIfInBounds_toArray, List.set_cons_zero, List.set_cons_succ, i64_w, i32_w]
                rfl
              refine pure_ (i := 5) (N := some 9) (v := ?_) (a' := ?_) #[true, true, true, true, false, true, false] rfl rfl (by kernel_rfl) (fun _ _ _ h => h) (Or.inl ⟨by rfl, ?_⟩) ?_ ?_
              rotate_left
              · intro w'
                go_simp
                with_reducible rfl
              rotate_left
              · simp only [Act.put, List.setIfInBounds_toArray, List.set_cons_zero, List.set_cons_succ, i64_w, i32_w]
                rfl
              refine one_ (i := 4) (N := some 18) #[true, true, true, true, true, true, false] rfl rfl (by kernel_rfl) (by decide) (fun K hK => ?_)
              refine Kd.R_make_step (Kd.int .i64) _ 3 (by rfl) (N := 18) rfl 22 _ _ rfl a1 rfl rfl Try.underlying22 (.int .i64 0) 8 info3 rfl (by decide) (by omega) 0 (ok := fun _ => True) (okp := fun _ => True) rfl (fun _ hk => hk) trivial (of_decide_eq_true (by first | (with_reducible assumption) | assumption)) (Nat.le_trans (Nat.mul_le_mul_right _ (of_decide_eq_true (by first | (with_reducible assumption) | assumption) : a1.toNat ≤ 35184372088832)) (by omega)) (Below.refl _ _) (Nat.le_refl _) ?_
              intro v105 w11 ho12 hb hg_ hnew_
              clear hg_ hnew_
              (first | rw [← Ny104.out] at ho12 | (simp only [Int.reduceToNat] at ho12; rw [← Ny104.out] at ho12))
              have n0_ := Aside0.mk (Kd.R_elder' (by (with_reducible repeat (first | apply Kd.R_alloc | apply Kd.R_drewN | apply Kd.R_drew)); exact HO103.out) (Kd.R_base ho12) hb)
              have n1_ := Aside0.mk (Kd.R_lower (Kd.R_new' ho12 (Kd.R_lt (by (with_reducible repeat (first | apply Kd.R_alloc | apply Kd.R_drewN | apply Kd.R_drew)); exact HO103.out))) (below_size (by repeat (first | (with_reducible first | exact HB.out | apply below_alloc | apply pw_below_drewN | apply below_drew1) | exact HB.out))))
              have n2_ := Aside0.mk (below_step (by repeat (first | (with_reducible first | exact HB.out | apply below_alloc | apply pw_below_drewN | apply below_drew1) | exact HB.out)) hb)
              clear HO103
              clear HB
              have HO103 := n0_
              have HO106 := n1_
              have HB := n2_
              clear n0_ n1_ n2_
              clear hb ho12
              refine hK.out _ _ trivial (fun hHeld => ?_)
              clear hK K
              refine norm_ (a' := ?_) ?_ ?_
              rotate_left
              · show Act.put _ (some 18) _ = _
                simp only [Act.put, List.setIfInBounds_toArray, List.set_cons_zero, List.set_cons_succ, i64_w, i32_w]
                rfl
              exact norm_ (by simp only [putAll, Act.put, List.setIfInBounds_toArray, List.set_cons_zero, List.set_cons_succ]) (hCont (v102, v105) _ ⟨(by (with_reducible repeat (first | apply Kd.R_alloc | apply Kd.R_drewN | apply Kd.R_drew)); exact Kd.R_mono HO103.out (fun _ hk => hk.2)), (by (with_reducible repeat (first | apply Kd.R_alloc | apply Kd.R_drewN | apply Kd.R_drew)); exact Kd.R_mono HO106.out (fun _ hk => hk.2)), (by repeat (first | (with_reducible first | exact HB.out | apply below_alloc | apply pw_below_drewN | apply below_drew1) | exact HB.out))⟩)
            · skip
              refine Kd.R_make_step (Kd.int .i64) _ 3 (by rfl) (N := 18) rfl 22 _ _ rfl a1 rfl rfl Try.underlying22 (.int .i64 0) 8 info3 rfl (by decide) (by omega) 0 (ok := fun _ => True) (okp := fun _ => True) rfl (fun _ hk => hk) trivial (of_decide_eq_true (by first | (with_reducible assumption) | assumption)) (Nat.le_trans (Nat.mul_le_mul_right _ (of_decide_eq_true (by first | (with_reducible assumption) | assumption) : a1.toNat ≤ 35184372088832)) (by omega)) (Below.refl _ _) (Nat.le_refl _) ?_
              intro v105 w9 ho10 hb hg_ hnew_
              clear hg_ hnew_
              (first | rw [← Ny104.out] at ho10 | (simp only [Int.reduceToNat] at ho10; rw [← Ny104.out] at ho10))
              have n0_ := Aside0.mk (Kd.R_lower ho10 (below_size (by repeat (first | (with_reducible first | exact HB.out | apply below_alloc | apply pw_below_drewN | apply below_drew1) | exact HB.out))))
              have n1_ := Aside0.mk (below_step (by repeat (first | (with_reducible first | exact HB.out | apply below_alloc | apply pw_below_drewN | apply below_drew1) | exact HB.out)) hb)
              clear HB
              have HO106 := n0_
              have HB := n1_
              clear n0_ n1_
              clear hb ho10
              refine hK.out _ _ trivial (fun hHeld => ?_)
              clear hK K
              refine norm_ (a' := ?_) ?_ ?_
              rotate_left
              · show Act.put _ (some 18) _ = _
                simp only [Act.put, List.setIfInBounds_toArray, List.set_cons_zero, List.set_cons_succ, i64_w, i32_w]
                rfl
              refine one_ (i := 2) (N := some 16) #[true, true, true, true, true, false, false] rfl rfl (by kernel_rfl) (by decide) (fun K hK => ?_)
              refine Kd.R_make_step (Kd.int .i64) _ 3 (by rfl) (N := 16) rfl 22 _ _ rfl (l0.length : Int) rfl rfl Try.underlying22 (.int .i64 0) 8 info3 rfl (by decide) (by omega) 0 (ok := fun _ => True) (okp := fun _ => True) rfl (fun _ hk => hk) trivial (of_decide_eq_true (by first | (with_reducible assumption) | assumption)) (Nat.le_trans (Nat.mul_le_mul_right _ (of_decide_eq_true (by first | (with_reducible assumption) | assumption) : (l0.length : Int).toNat ≤ 35184372088832)) (by omega)) (Below.refl _ _) (Nat.le_refl _) ?_
              intro v102 w11 ho12 hb hg_ hnew_
              clear hg_ hnew_
              (first | rw [← Ny101.out] at ho12 | (simp only [Int.reduceToNat] at ho12; rw [← Ny101.out] at ho12))
              have n0_ := Aside0.mk (Kd.R_elder' (by (with_reducible repeat (first | apply Kd.R_alloc | apply Kd.R_drewN | apply Kd.R_drew)); exact HO106.out) (Kd.R_base ho12) hb)
              have n1_ := Aside0.mk (Kd.R_lower (Kd.R_new' ho12 (Kd.R_lt (by (with_reducible repeat (first | apply Kd.R_alloc | apply Kd.R_drewN | apply Kd.R_drew)); exact HO106.out))) (below_size (by repeat (first | (with_reducible first | exact HB.out | apply below_alloc | apply pw_below_drewN | apply below_drew1) | exact HB.out))))
              have n2_ := Aside0.mk (below_step (by repeat (first | (with_reducible first | exact HB.out | apply below_alloc | apply pw_below_drewN | apply below_drew1) | exact HB.out)) hb)
              clear HO106
              clear HB
              have HO106 := n0_
              have HO103 := n1_
              have HB := n2_
              clear n0_ n1_ n2_
              clear hb ho12
              refine hK.out _ _ trivial (fun hHeld => ?_)
              clear hK K
              refine norm_ (a' := ?_) ?_ ?_
              rotate_left
              · show Act.put _ (some 16) _ = _
                simp only [Act.put, List.setIfInBounds_toArray, List.set_cons_zero, List.set_cons_succ, i64_w, i32_w]
                rfl
              refine pure_ (i := 5) (N := some 9) (v := ?_) (a' := ?_) #[true, true, true, true, true, true, false] rfl rfl (by kernel_rfl) (fun _ _ _ h => h) (Or.inl ⟨by rfl, ?_⟩) ?_ ?_
              rotate_left
              · intro w'
                go_simp
                with_reducible rfl
              rotate_left
              · simp only [Act.put, List.setIfInBounds_toArray, List.set_cons_zero, List.set_cons_succ, i64_w, i32_w]
                rfl
              exact norm_ (by simp only [putAll, Act.put, List.setIfInBounds_toArray, List.set_cons_zero, List.set_cons_succ]) (hCont (v102, v105) _ ⟨(by (with_reducible repeat (first | apply Kd.R_alloc | apply Kd.R_drewN | apply Kd.R_drew)); exact Kd.R_mono HO103.out (fun _ hk => hk.2)), (by (with_reducible repeat (first | apply Kd.R_alloc | apply Kd.R_drewN | apply Kd.R_drew)); exact Kd.R_mono HO106.out (fun _ hk => hk.2)), (by repeat (first | (with_reducible first | exact HB.out | apply below_alloc | apply pw_below_drewN | apply below_drew1) | exact HB.out))⟩)
          rintro ⟨v102, v105⟩ w13 ⟨h0_, h1_, h2_⟩
          have n0_ : Aside0 (Kd.R (Kd.int .i64) 3 w13 w.heap.size (fun k_ => some k_ ≠ (v105 : Value).ownBlock) v102 y101) := ⟨h0_⟩
          have n1_ : Aside0 (Kd.R (Kd.int .i64) 3 w13 w.heap.size (fun k_ => some k_ ≠ (v102 : Value).ownBlock) v105 y104) := ⟨h1_⟩
          have n2_ : Aside0 (Below w.heap.size w w13) := ⟨h2_⟩
          clear HB
          clear h0_ h1_ h2_
          have HO103 := n0_
          have HO106 := n1_
          have HB := n2_
          clear n0_ n1_ n2_
          have hHeld := trivial
          refine norm_ (a' := ?_) ?_ ?_
          rotate_left
          · simp only [putAll, Act.put, List.setIfInBounds_toArray, List.set_cons_zero, List.set_cons_succ]
            rfl
          refine pure_ (i := 6) (N := some 10) (v := ?_) (a' := ?_) #[true, true, true, true, true, true, true] rfl rfl (by kernel_rfl) (fun _ _ _ h => h) (Or.inl ⟨by rfl, ?_⟩) ?_ ?_
          rotate_left
          · intro w'
            go_simp
            with_reducible rfl
          rotate_left
          · simp only [Act.put, List.setIfInBounds_toArray, List.set_cons_zero, List.set_cons_succ, i64_w, i32_w]
            rfl
          refine done_ (by kernel_rfl) ?_
          try go_wp2
          go_loopg [21] k (fun kq v21 w' => ∃ (x9_1 : List Int) (x10_1 : List Int) (x21_1 : Int), v21 = .int .i64 x21_1 ∧ Aside0 (impl_give.l0 kq l0 x9_1 x10_1 l2 (l2.length : Int) x21_1 = some (r1, r2, r3)) ∧ Aside0 (kq ≤ k) ∧ Aside0 (Kd.R (Kd.int .i64) 3 w' w.heap.size (fun k_ => some k_ ≠ (v105 : Value).ownBlock) v102 x9_1) ∧ Aside0 (Kd.R (Kd.int .i64) 3 w' w.heap.size (fun k_ => some k_ ≠ (v102 : Value).ownBlock) v105 x10_1) ∧ Aside0 (Below w.heap.size w w'))
          case atStart => exact ⟨(y101), (y104), (0), (by first | rfl | (simp; done) | (simp [*]; done)), H', ⟨Nat.le_refl _⟩, ⟨by (with_reducible repeat (first | apply Kd.R_alloc | apply Kd.R_drewN | apply Kd.R_drew)); exact HO103.out⟩, ⟨by (with_reducible repeat (first | apply Kd.R_alloc | apply Kd.R_drewN | apply Kd.R_drew)); exact HO106.out⟩, ⟨by repeat (first | (with_reducible first | exact HB.out | apply below_alloc | apply pw_below_drewN | apply below_drew1) | exact HB.out)⟩⟩
          case round =>
            clear H'
            try clear c2
            try clear p2
            try clear c4
            try clear c4b0
            try clear c4b1
            try clear c5
            try clear c5b0
            try clear c5b1
            try clear c6
            try clear c6b0
            try clear c6b1
            try clear c7
            try clear c7b0
            try clear c7b1
            obtain ⟨x9_1, x10_1, x21_1, rfl, HA, HK1, HO_9, HO_10, HB⟩ := hrel
            cases gk with
            | zero => exact absurd HA.out (by simp [impl_give.l0])
            | succ k1 =>
              have H := HA.out
              clear HA
              simp only [impl_give.l0] at H
              by_cases c14 : x21_1 < (l2.length : Int)
              · rw [if_pos c14] at H
                have c14b0 : decide (x21_1 < (l2.length : Int)) = true := decide_eq_true c14
                clear c14
                by_cases c15 : 0 ≤ x21_1
                · rw [if_pos c15] at H
                  have c15b0 : decide (0 ≤ x21_1) = true := decide_eq_true c15
                  clear c15
                  by_cases c16 : x21_1 < (l2.length : Int)
                  · rw [if_pos c16] at H
                    have c16b0 : decide (x21_1 < (l2.length : Int)) = true := decide_eq_true c16
                    clear c16
                    replace H := Option.bind_eq_some_iff.mp H
                    obtain ⟨t108, A170, H⟩ := H
                    replace H : ((slices_Index_int_int.f k1 x10_1 t108).bind fun t109 => (if 0 ≤ (rd l2 x21_1) then (if (rd l2 x21_1) < (x9_1.length : Int) then (if 0 ≤ t109 then (if t109 < (x10_1.length : Int) then (if (rd l2 x21_1) < (l0.length : Int) then (impl_give.l0 k1 l0 (x9_1.set ((rd l2 x21_1) : Int).toNat t109) (x10_1.set (t109 : Int).toNat (wrap64 ((rd x10_1 t109) + (rd l0 (rd l2 x21_1))))) l2 (l2.length : Int) (wrap64 (x21_1 + 1))) else (none)) else (none)) else (none)) else (none)) else (none))) = some (r1, r2, r3) := H
                    have A17 := Aside0.mk A170
                    clear A170
                    replace H := Option.bind_eq_some_iff.mp H
                    obtain ⟨t109, A180, H⟩ := H
                    replace H : (if 0 ≤ (rd l2 x21_1) then (if (rd l2 x21_1) < (x9_1.length : Int) then (if 0 ≤ t109 then (if t109 < (x10_1.length : Int) then (if (rd l2 x21_1) < (l0.length : Int) then (impl_give.l0 k1 l0 (x9_1.set ((rd l2 x21_1) : Int).toNat t109) (x10_1.set (t109 : Int).toNat (wrap64 ((rd x10_1 t109) + (rd l0 (rd l2 x21_1))))) l2 (l2.length : Int) (wrap64 (x21_1 + 1))) else (none)) else (none)) else (none)) else (none)) else (none)) = some (r1, r2, r3) := H
                    have A18 := Aside0.mk A180
                    clear A180
                    by_cases c19 : 0 ≤ (rd l2 x21_1)
                    · rw [if_pos c19] at H
                      have c19b0 : decide (0 ≤ (rd l2 x21_1)) = true := decide_eq_true c19
                      clear c19
                      by_cases c20 : (rd l2 x21_1) < (x9_1.length : Int)
                      · rw [if_pos c20] at H
                        have c20b0 : decide ((rd l2 x21_1) < (x9_1.length : Int)) = true := decide_eq_true c20
                        clear c20
                        obtain ⟨y110, hy110⟩ : ∃ y_ : List Int, y_ = (x9_1.set ((rd l2 x21_1) : Int).toNat t109) := ⟨_, rfl⟩
                        replace H : (if 0 ≤ t109 then (if t109 < (x10_1.length : Int) then (if (rd l2 x21_1) < (l0.length : Int) then (impl_give.l0 k1 l0 y110 (x10_1.set (t109 : Int).toNat (wrap64 ((rd x10_1 t109) + (rd l0 (rd l2 x21_1))))) l2 (l2.length : Int) (wrap64 (x21_1 + 1))) else (none)) else (none)) else (none)) = some (r1, r2, r3) := by first | (rw [hy110]; with_reducible exact H) | (have H2_ := (Option.bind_some _ _).symm.trans H; rw [hy110]; with_reducible exact H2_) | (have H2_ := (Option.bind_some _ _).symm.trans H; with_reducible exact H2_) | with_reducible exact H | (rw [hy110]; exact H) | exact H
                        have Ny110 := Aside0.mk hy110
                        clear hy110
                        by_cases c22 : 0 ≤ t109
                        · rw [if_pos c22] at H
                          have c22b0 : decide (0 ≤ t109) = true := decide_eq_true c22
                          clear c22
                          by_cases c23 : t109 < (x10_1.length : Int)
                          · rw [if_pos c23] at H
                            have c23b0 : decide (t109 < (x10_1.length : Int)) = true := decide_eq_true c23
                            clear c23
                            by_cases c24 : (rd l2 x21_1) < (l0.length : Int)
                            · rw [if_pos c24] at H
                              have c24b0 : decide ((rd l2 x21_1) < (l0.length : Int)) = true := decide_eq_true c24
                              clear c24
                              obtain ⟨y113, hy113⟩ : ∃ y_ : List Int, y_ = (x10_1.set (t109 : Int).toNat (wrap64 ((rd x10_1 t109) + (rd l0 (rd l2 x21_1))))) := ⟨_, rfl⟩
                              replace H : (impl_give.l0 k1 l0 y110 y113 l2 (l2.length : Int) (wrap64 (x21_1 + 1))) = some (r1, r2, r3) := by first | (rw [hy113]; with_reducible exact H) | (have H2_ := (Option.bind_some _ _).symm.trans H; rw [hy113]; with_reducible exact H2_) | (have H2_ := (Option.bind_some _ _).symm.trans H; with_reducible exact H2_) | with_reducible exact H | (rw [hy113]; exact H) | exact H
                              have Ny113 := Aside0.mk hy113
                              clear hy113
                              have H' := Aside0.mk H
                              clear H
                              have p107 : 0 ≤ (x21_1 : Int) := of_decide_eq_true (by first | (with_reducible assumption) | assumption)
                              have q107 : x21_1 < (l2.length : Int) := of_decide_eq_true (by first | (with_reducible assumption) | assumption)
                              obtain ⟨ad107, e107, hx107_0⟩ := Kd.at_int HR2.out x21_1 p107 q107
                              cases e107
                              replace hx107_0 := (HB.out.cell (World.block_lt_of_cell? w _ hx107_0)).trans hx107_0
                              replace p107 := eq_true p107
                              replace q107 := eq_true q107
                              obtain ⟨Ao26, co26, eo26⟩ := Kd.R_slice HO_10.out
                              subst eo26
                              try go_wp2_with (first | ((with_reducible refine gate_callee (f := 50) rfl ?_); refine goesL_ (some 27) rfl rfl Try.func50 (by kernel_rfl) rfl #[.slice Ao26 x10_1.length co26] rfl (by (try simp only [List.map_toArray, List.map_cons, List.map_nil]); first | done | rfl | (simp only [List.length_drop, List.length_take]; rfl)) ?_; (with_reducible refine (slices_Min_int_int.calls _ _ x10_1 t108 _ ?side1 ?side2 A17.out).mono ?_); (case side1 => repeat (first | exact (Kd.R_reads' HO_10.out).2.2 | (with_reducible refine Kd.C_alloc ?_ _) | (with_reducible refine Kd.C_drewN ?_ _) | (with_reducible refine Kd.C_drew ?_))); (case side2 => exact (Kd.R_reads' HO_10.out).2.1); rintro e w' ⟨rfl, ⟨nd, rfl⟩⟩; refine ⟨_, rfl, ?_⟩; (try (rw [drewN_self wr]; generalize hq_ : World.drewN wr _ = wr; have n0_ : Aside0 (Kd.R (Kd.int .i64) 3 wr w.heap.size (fun k_ => some k_ ≠ (v102 : Value).ownBlock) (.slice Ao26 x10_1.length co26) x10_1) := ⟨by rw [← hq_]; exact (by (with_reducible repeat (first | apply Kd.R_alloc | apply Kd.R_drewN | apply Kd.R_drew)); exact HO_10.out)⟩; have n1_ : Aside0 (Kd.R (Kd.int .i64) 3 wr w.heap.size (fun k_ => some k_ ≠ (.slice Ao26 x10_1.length co26 : Value).ownBlock) v102 x9_1) := ⟨by rw [← hq_]; exact (by (with_reducible repeat (first | apply Kd.R_alloc | apply Kd.R_drewN | apply Kd.R_drew)); exact HO_9.out)⟩; have n2_ : Aside0 (Below w.heap.size w wr) := ⟨by rw [← hq_]; exact (by repeat (first | (with_reducible first | exact HB.out | apply below_alloc | apply pw_below_drewN | apply below_drew1) | exact HB.out))⟩; clear HO_10 HO_9 HB hq_; have HO_10 := n0_; have HO_9 := n1_; have HB := n2_; clear n0_ n1_ n2_))) | ((with_reducible refine gate_callee (f := 49) rfl ?_); refine goesL_ (some 28) rfl rfl Try.func49 (by kernel_rfl) rfl #[.slice Ao26 x10_1.length co26, .int .i64 t108] rfl (by (try simp only [List.map_toArray, List.map_cons, List.map_nil]); first | done | rfl | (simp only [List.length_drop, List.length_take]; rfl)) ?_; (with_reducible refine (slices_Index_int_int.calls k1 _ _ x10_1 t108 t109 _ ?side1 ?side2 A18.out).mono ?_); (case side1 => repeat (first | exact (Kd.R_reads' HO_10.out).2.2 | (with_reducible refine Kd.C_alloc ?_ _) | (with_reducible refine Kd.C_drewN ?_ _) | (with_reducible refine Kd.C_drew ?_))); (case side2 => exact (Kd.R_reads' HO_10.out).2.1); rintro e w' ⟨rfl, ⟨nd, rfl⟩⟩; refine ⟨_, rfl, ?_⟩; (try (rw [drewN_self wr]; generalize hq_ : World.drewN wr _ = wr; have n0_ : Aside0 (Kd.R (Kd.int .i64) 3 wr w.heap.size (fun k_ => some k_ ≠ (v102 : Value).ownBlock) (.slice Ao26 x10_1.length co26) x10_1) := ⟨by rw [← hq_]; exact (by (with_reducible repeat (first | apply Kd.R_alloc | apply Kd.R_drewN | apply Kd.R_drew)); exact HO_10.out)⟩; have n1_ : Aside0 (Kd.R (Kd.int .i64) 3 wr w.heap.size (fun k_ => some k_ ≠ (.slice Ao26 x10_1.length co26 : Value).ownBlock) v102 x9_1) := ⟨by rw [← hq_]; exact (by (with_reducible repeat (first | apply Kd.R_alloc | apply Kd.R_drewN | apply Kd.R_drew)); exact HO_9.out)⟩; have n2_ : Aside0 (Below w.heap.size w wr) := ⟨by rw [← hq_]; exact (by repeat (first | (with_reducible first | exact HB.out | apply below_alloc | apply pw_below_drewN | apply below_drew1) | exact HB.out))⟩; clear HO_10 HO_9 HB hq_; have HO_10 := n0_; have HO_9 := n1_; have HB := n2_; clear n0_ n1_ n2_)); have p21 : 0 ≤ ((rd l2 x21_1) : Int) := of_decide_eq_true (by first | (with_reducible assumption) | assumption); have q21 : ((rd l2 x21_1) : Int) < ((x9_1.length : Int) : Int) := of_decide_eq_true (by first | (with_reducible assumption) | assumption); obtain ⟨go21, co21, eo21, gb21, gl21, cl21, HG21⟩ := Kd.R_form HO_9.out (by omega); (first | cases eo21 | (injection eo21 with ea_ en_ ec_; (first | subst ea_ | (injection ea_ with ea_; subst ea_)); subst ec_; clear en_)); have GB21 := Aside0.mk gb21; have GG21 := Aside0.mk HG21; clear gb21 gl21 HG21; obtain ⟨hx21_0, hf21_0⟩ := Kd.R_celln 0 HO_9.out ((rd l2 x21_1) : Int) p21 q21; replace p21 := eq_true p21; replace q21 := eq_true q21; obtain ⟨hy27_, hz27_⟩ := Kd.R_celln 0 HO_9.out ((rd l2 x21_1) : Int) (of_decide_eq_true (by first | (with_reducible assumption) | assumption)) (of_decide_eq_true (by first | (with_reducible assumption) | assumption)); have HP27 := Kd.R_putg HO_9.out ((rd l2 x21_1) : Int) t109) | ((with_reducible refine gate_store (t := 3) (p := 32) rfl ?_); refine store_event (t := 3) (p := 32) (v := ?vo_w28) (w1 := (wr.setCell ⟨go21, ((rd l2 x21_1) : Int).toNat, none⟩ (.int .i64 t109))) ?hg ?ho ?hn ?hr ?_; (case ho => rfl); (case hg => rfl); (case hn => rfl); (case hr => first | (go_simp; done) | (go_simp; rfl)); intro w28 hw; have hg : wr.grownBy w28 (some go21) := (by rw [hw]; exact HP27.2); have hp_ : Kd.R (Kd.int .i64) 3 w28 w.heap.size (fun k_ => some k_ ≠ (.slice Ao26 x10_1.length co26 : Value).ownBlock) (.slice (some ⟨go21, 0, none⟩) x9_1.length co21) y110 := (by rw [hw, Ny110.out]; exact HP27.1); clear HP27; have n0_ := Aside0.mk (hp_); have n1_ := Aside0.mk (Kd.R_after (v := (.slice (some ⟨go21, 0, none⟩) x9_1.length co21)) (v1 := (.slice (some ⟨go21, 0, none⟩) x9_1.length co21)) (ok := (fun _ => True)) (by (with_reducible repeat (first | apply Kd.R_alloc | apply Kd.R_drewN | apply Kd.R_drew)); exact Kd.R_mono HO_10.out (fun _ hk => ⟨trivial, hk⟩)) hg (.inl rfl)); have n2_ := Aside0.mk ((by rw [hw]; exact below_set (HB.out) GB21.out : Below w.heap.size w w28)); clear HO_9; clear HO_10; clear HB; have HO_9 := n0_; have HO_10 := n1_; have HB := n2_; clear n0_ n1_ n2_; clear hg hw hp_))
                              have n0_ := Aside0.mk (Kd.R_drew HO_9.out)
                              have n1_ := Aside0.mk (Kd.R_drew HO_10.out)
                              have n2_ := Aside0.mk (below_drew1 HB.out)
                              clear HO_9
                              clear HO_10
                              clear HB
                              have HO_9 := n0_
                              have HO_10 := n1_
                              have HB := n2_
                              clear n0_ n1_ n2_
                              have p111 : 0 ≤ (t109 : Int) := of_decide_eq_true (by first | (with_reducible assumption) | assumption)
                              have q111 : t109 < (x10_1.length : Int) := of_decide_eq_true (by first | (with_reducible assumption) | assumption)
                              obtain ⟨ad111, e111, hx111_0⟩ := Kd.at_int (Kd.R_reads' HO_10.out).2.2 t109 p111 q111
                              cases e111
                              replace p111 := eq_true p111
                              replace q111 := eq_true q111
                              have p112 : 0 ≤ ((rd l2 x21_1) : Int) := of_decide_eq_true (by first | (with_reducible assumption) | assumption)
                              have q112 : (rd l2 x21_1) < (l0.length : Int) := of_decide_eq_true (by first | (with_reducible assumption) | assumption)
                              obtain ⟨ad112, e112, hx112_0⟩ := Kd.at_int HR0.out (rd l2 x21_1) p112 q112
                              have hw112_0 := hx112_0
                              cases e112
                              replace hx112_0 := (HB.out.cell (World.block_lt_of_cell? w _ hx112_0)).trans hx112_0
                              replace p112 := eq_true p112
                              replace q112 := eq_true q112
                              have p25 : 0 ≤ (t109 : Int) := of_decide_eq_true (by first | (with_reducible assumption) | assumption)
                              have q25 : (t109 : Int) < ((x10_1.length : Int) : Int) := of_decide_eq_true (by first | (with_reducible assumption) | assumption)
                              obtain ⟨go25, co25, eo25, gb25, gl25, cl25, HG25⟩ := Kd.R_form HO_10.out (by omega)
                              (first | cases eo25 | (injection eo25 with ea_ en_ ec_; (first | subst ea_ | (injection ea_ with ea_; subst ea_)); subst ec_; clear en_))
                              have GB25 := Aside0.mk gb25
                              have GG25 := Aside0.mk HG25
                              clear gb25 gl25 HG25
                              (first | simp only [add_plain] at hx111_0 | skip)
                              obtain ⟨hx25_0, hf25_0⟩ := Kd.R_celln 0 HO_10.out (t109 : Int) p25 q25
                              replace p25 := eq_true p25
                              replace q25 := eq_true q25
                              have HP30 := Kd.R_putn HO_10.out (t109 : Int) (wrap64 ((rd x10_1 t109) + (rd l0 (rd l2 x21_1))))
                              rw [← Ny113.out] at HP30
                              have HQ30 := Aside0.mk HP30
                              clear HP30
                              refine start_ (n := 11) (S := fun w' => w'.cell? ⟨go25, (t109).toNat, none⟩ = some (.int .i64 (rd x10_1 t109)) ∧ w'.cell? (ad112.add ((rd l2 x21_1)).toNat) = some (.int .i64 (rd l0 (rd l2 x21_1)))) (ds := [10]) #[false, false, false, false, false, false, false, false, false, false, false] (by kernel_rfl) rfl rfl ⟨hx111_0, ((HB.out.cell (World.block_lt_of_cell? w _ hw112_0)).trans hw112_0)⟩ (fun hHeld => ?_); refine with_tabW impl_give.tab7 impl_give.bits7 (fun HT_ HW_ => ?_)
                              generalize w28.drew = w29 at HO_9 HO_10 HB GG25 HQ30 hf25_0 hx111_0 hx112_0 hx25_0 hHeld ⊢
                              refine pure_ (i := 0) (N := some 33) (v := ?_) (a' := ?_) #[true, false, false, false, false, false, false, false, false, false, false] rfl rfl (any_of HT_.out (by kernel_rfl)) (fun _ _ _ h => h) (Or.inl ⟨by rfl, ?_⟩) ?_ ?_
                              rotate_left
                              · intro w'
                                go_simp
                                with_reducible rfl
                              rotate_left
                              · simp only [Act.put, List.setIfInBounds_toArray, List.set_cons_zero, List.set_cons_succ, i64_w, i32_w]
                                rfl
                              refine pure_ (i := 1) (N := some 34) (v := ?_) (a' := ?_) #[true, true, false, false, false, false, false, false, false, false, false] rfl rfl (any_of HT_.out (by kernel_rfl)) (fun _ _ _ h => h) (Or.inl ⟨by rfl, ?_⟩) ?_ ?_
                              rotate_left
                              · intro w'
                                go_simp
                                with_reducible rfl
                              rotate_left
                              · simp only [Act.put, List.setIfInBounds_toArray, List.set_cons_zero, List.set_cons_succ, i64_w, i32_w]
                                rfl
                              refine pure_ (i := 2) (N := some 35) (v := ?_) (a' := ?_) #[true, true, true, false, false, false, false, false, false, false, false] rfl rfl (any_of HT_.out (by kernel_rfl)) (fun _ _ _ h => h) (Or.inl ⟨by rfl, ?_⟩) ?_ ?_
                              rotate_left
                              · intro w'
                                go_simp
                                with_reducible rfl
                              rotate_left
                              · simp only [Act.put, List.setIfInBounds_toArray, List.set_cons_zero, List.set_cons_succ, i64_w, i32_w]
                                rfl
                              refine pure_ (i := 4) (N := some 37) (v := ?_) (a' := ?_) #[true, true, true, false, true, false, false, false, false, false, false] rfl rfl (any_of HT_.out (by kernel_rfl)) (fun _ _ _ h => h) (Or.inl ⟨by rfl, ?_⟩) ?_ ?_
                              rotate_left
                              · intro w'
                                go_simp
                                with_reducible rfl
                              rotate_left
                              · simp only [Act.put, List.setIfInBounds_toArray, List.set_cons_zero, List.set_cons_succ, i64_w, i32_w]
                                rfl
                              refine pure_ (i := 5) (N := some 38) (v := ?_) (a' := ?_) #[true, true, true, false, true, true, false, false, false, false, false] rfl rfl (any_of HT_.out (by kernel_rfl)) (fun _ _ _ h => h) (Or.inl ⟨by rfl, ?_⟩) ?_ ?_
                              rotate_left
                              · intro w'
                                go_simp
                                with_reducible rfl
                              rotate_left
                              · simp only [Act.put, List.setIfInBounds_toArray, List.set_cons_zero, List.set_cons_succ, i64_w, i32_w]
                                rfl
                              refine pure_ (i := 6) (N := some 39) (v := ?_) (a' := ?_) #[true, true, true, false, true, true, true, false, false, false, false] rfl rfl (any_of HT_.out (by kernel_rfl)) (fun _ _ _ h => h) (Or.inl ⟨by rfl, ?_⟩) ?_ ?_
                              rotate_left
                              · intro w'
                                go_simp
                                with_reducible rfl
                              rotate_left
                              · simp only [Act.put, List.setIfInBounds_toArray, List.set_cons_zero, List.set_cons_succ, i64_w, i32_w]
                                rfl
                              refine take_ (i := 3) (N := some 36) (v := ?_) (a' := ?_) #[true, true, true, true, true, true, true, false, false, false, false] rfl rfl (take_ofW HT_.out HW_.out (by kernel_rfl)) (fun _ _ _ h => h) (Or.inl ⟨by rfl, ?_⟩) hHeld ?_ ?_
                              rotate_left
                              · rintro w' ⟨s0, s1⟩
                                go_simp
                                with_reducible rfl
                              rotate_left
                              · simp only [Act.put, List.setIfInBounds_toArray, List.set_cons_zero, List.set_cons_succ, i64_w, i32_w]
                                rfl
                              refine take_ (i := 7) (N := some 40) (v := ?_) (a' := ?_) #[true, true, true, true, true, true, true, true, false, false, false] rfl rfl (take_ofW HT_.out HW_.out (by kernel_rfl)) (fun _ _ _ h => h) (Or.inl ⟨by rfl, ?_⟩) hHeld ?_ ?_
                              rotate_left
                              · rintro w' ⟨s0, s1⟩
                                go_simp
                                with_reducible rfl
                              rotate_left
                              · simp only [Act.put, List.setIfInBounds_toArray, List.set_cons_zero, List.set_cons_succ, i64_w, i32_w]
                                rfl
                              refine pure_ (i := 8) (N := some 41) (v := ?_) (a' := ?_) #[true, true, true, true, true, true, true, true, true, false, false] rfl rfl (any_of HT_.out (by kernel_rfl)) (fun _ _ _ h => h) (Or.inl ⟨by rfl, ?_⟩) ?_ ?_
                              rotate_left
                              · intro w'
                                go_simp
                                with_reducible rfl
                              rotate_left
                              · simp only [Act.put, List.setIfInBounds_toArray, List.set_cons_zero, List.set_cons_succ, i64_w, i32_w]
                                rfl
                              refine pure_ (i := 9) (N := some 42) (v := ?_) (a' := ?_) #[true, true, true, true, true, true, true, true, true, true, false] rfl rfl (any_of HT_.out (by kernel_rfl)) (fun _ _ _ h => h) (Or.inl ⟨by rfl, ?_⟩) ?_ ?_
                              rotate_left
                              · intro w'
                                go_simp
                                with_reducible rfl
                              rotate_left
                              · simp only [Act.put, List.setIfInBounds_toArray, List.set_cons_zero, List.set_cons_succ, i64_w, i32_w]
                                rfl
                              refine last_ (i := 10) (N := none) #[true, true, true, true, true, true, true, true, true, true, true] rfl rfl (one_of HT_.out (by kernel_rfl)) (by decide) (fun K hK => ?_)
                              refine skip_ (w1 := ?_) (by rfl) rfl ?_ ?_
                              rotate_left
                              · go_simp
                                rfl
                              refine hK.out _ _ ?_
                              clear hK K
                              refine done_ (done_of HT_.out (by kernel_rfl)) ?_
                              try go_wp2
                              go_roundg k1
                              case measure => have := HK1.out; omega
                              case rel => exact ⟨(y110), (y113), (wrap64 (x21_1 + 1)), (by first | rfl | (simp; done) | (simp [*]; done)), H', ⟨by have := HK1.out; omega⟩, ⟨by (with_reducible repeat (first | apply Kd.R_alloc | apply Kd.R_drewN | apply Kd.R_drew)); exact Kd.R_mono (Kd.R_far (p := ⟨go25, (t109 : Int).toNat, none⟩) (Kd.R_mono HO_9.out (fun k_ hk => (⟨hk, fun e_ => hk (by rw [e_]; rfl)⟩ : _ ∧ k_ ≠ go25))) (fun _ hk => hk.2) (.int .i64 (wrap64 ((rd x10_1 t109) + (rd l0 (rd l2 x21_1)))))) (fun _ hk => hk.1)⟩, ⟨by (with_reducible repeat (first | apply Kd.R_alloc | apply Kd.R_drewN | apply Kd.R_drew)); exact Kd.R_mono HQ30.out (fun _ hk => hk.2)⟩, ⟨by repeat (first | (with_reducible first | exact HB.out | apply below_alloc | apply pw_below_drewN | apply below_drew1 | refine below_set ?_ GB25.out) | exact HB.out)⟩⟩
                            · rw [if_neg c24] at H
                              exact absurd H (by simp)
                          · rw [if_neg c23] at H
                            exact absurd H (by simp)
                        · rw [if_neg c22] at H
                          exact absurd H (by simp)
                      · rw [if_neg c20] at H
                        exact absurd H (by simp)
                    · rw [if_neg c19] at H
                      exact absurd H (by simp)
                  · rw [if_neg c16] at H
                    exact absurd H (by simp)
                · rw [if_neg c15] at H
                  exact absurd H (by simp)
              · rw [if_neg c14] at H
                have c14b0 : decide (x21_1 < (l2.length : Int)) = false := decide_eq_false c14
                clear c14
                replace H := Option.bind_eq_some_iff.mp H
                obtain ⟨t114, A310, H⟩ := H
                replace H : (some (x9_1, t114, true)) = some (r1, r2, r3) := H
                have A31 := Aside0.mk A310
                clear A310
                simp only [Option.some.injEq, Prod.mk.injEq] at H
                obtain ⟨rfl, rfl, rfl⟩ := H
                obtain ⟨Ao32, co32, eo32⟩ := Kd.R_slice HO_10.out
                subst eo32
                go_wp2_with (first | ((with_reducible refine gate_callee (f := 45) rfl ?_); refine goesL_ (some 46) rfl rfl Try.func45 (by kernel_rfl) rfl #[.slice Ao32 x10_1.length co32] rfl (by (try simp only [List.map_toArray, List.map_cons, List.map_nil]); first | done | rfl | (simp only [List.length_drop, List.length_take]; rfl)) ?_; (with_reducible refine (slices_Max_int_int.calls _ _ x10_1 t114 _ ?side1 ?side2 A31.out).mono ?_); (case side1 => repeat (first | exact (Kd.R_reads' HO_10.out).2.2 | (with_reducible refine Kd.C_alloc ?_ _) | (with_reducible refine Kd.C_drewN ?_ _) | (with_reducible refine Kd.C_drew ?_))); (case side2 => exact (Kd.R_reads' HO_10.out).2.1); rintro e w' ⟨rfl, ⟨nd, rfl⟩⟩; refine ⟨_, rfl, ?_⟩))
                go_ret3
                exact ⟨_, by first | rfl | (simp [errW_none, errW_some] <;> rfl) | (simp [*, errW_none, errW_some] <;> rfl), by (with_reducible repeat (first | apply Kd.R_alloc | apply Kd.R_drewN | apply Kd.R_drew)); exact Kd.R_mono HO_9.out (fun _ hk => trivial), by repeat (first | (with_reducible first | exact HB.out | apply below_alloc | apply pw_below_drewN | apply below_drew1) | exact HB.out)⟩
        · rw [if_neg c7] at H
          exact absurd H (by simp)
      · rw [if_neg c6] at H
        exact absurd H (by simp)
    · rw [if_neg c5] at H
      exact absurd H (by simp)
  · rw [if_neg c4] at H
    exact absurd H (by simp)

end Go.Proofs.Ytpicfpdpcbncmaa.P

namespace Go.Proofs.Ytpicfpdpcbncmaa.P
open Go.RowKit Go.Proofs.YtpicfpdpcbncmaaW.PrintWords Go.Proofs.YtpicfpdpcbncmaaW.PrintLast Go.Proofs.YtpicfpdpcbncmaaW.PrintMore
attribute [local go_sem] max2_int min2_int max_two min_two max_three min_three max_four min_four
set_option linter.unusedVariables false
set_option linter.unusedSimpArgs false

/-! ### impl_GiveLongest: function 19 (by hand) -/
open Go.Shelf Go.Sort
def impl_GiveLongest.lay_ren : Go.Shelf.Ren := ⟨fun | 20 => 53 | n => n, fun | 24 => 3 | 22 => 22 | 3 => 3 | 25 => 55 | 4 => 4 | 0 => 0 | n => n, fun | n => n⟩
theorem impl_GiveLongest.lay : SlLaysF.n20 Try.prog impl_GiveLongest.lay_ren := {
  mixed := by kernel_rfl
  f20 := ⟨Try.f53.name, by decide, Try.func53.trans (congrArg some (by kernel_rfl))⟩
  t0 := Try.underlying0
  a0 := Try.isAgg0
  z0 := Try.sizeOf0
  v0 := Try.zeroValue0
  t3 := Try.underlying3
  a3 := Try.isAgg3
  z3 := Try.sizeOf3
  v3 := Try.zeroValue3
  t4 := Try.underlying4
  a4 := Try.isAgg4
  z4 := Try.sizeOf4
  v4 := Try.zeroValue4
  t22 := Try.underlying22
  a22 := Try.isAgg22
  z22 := Try.sizeOf22
  v22 := Try.zeroValue22
  a24 := Try.isAgg3
  z24 := Try.sizeOf3
  t25 := Try.underlying55
  a25 := Try.isAgg55
  z25 := Try.sizeOf55
  v25 := Try.zeroValue55 }

def impl_GiveLongest.lay0_ren : Go.Shelf.Ren := ⟨fun | 20 => 53 | n => n, fun | 24 => 3 | 22 => 22 | 3 => 3 | 25 => 55 | 4 => 4 | 0 => 0 | n => n, fun | n => n⟩
theorem impl_GiveLongest.lay0 : SlLaysF0.n20 Try.prog impl_GiveLongest.lay0_ren := {
  mixed := by kernel_rfl
  f20 := ⟨Try.f53.name, by decide, Try.func53.trans (congrArg some (by kernel_rfl))⟩
  t0 := Try.underlying0
  a0 := Try.isAgg0
  z0 := Try.sizeOf0
  v0 := Try.zeroValue0
  t3 := Try.underlying3
  a3 := Try.isAgg3
  z3 := Try.sizeOf3
  v3 := Try.zeroValue3
  t4 := Try.underlying4
  a4 := Try.isAgg4
  z4 := Try.sizeOf4
  v4 := Try.zeroValue4
  t22 := Try.underlying22
  a22 := Try.isAgg22
  z22 := Try.sizeOf22
  v22 := Try.zeroValue22
  t25 := Try.underlying55
  a25 := Try.isAgg55
  z25 := Try.sizeOf55
  v25 := Try.zeroValue55 }


/-- A number of a chore: 0 to n. -/
structure Ix (n : Nat) where
  v : Int
  h : (decide (0 ≤ v) && decide (v ≤ (n : Int))) = true
instance instIx (n : Nat) : Inhabited (Ix n) := ⟨⟨0, by simp⟩⟩
def encIx {n : Nat} (x : Ix n) : Value := .int .i64 x.v
def cfIx (l : List Int) (n : Nat) (x y : Ix n) : Int := wrap64 (rd l y.v - rd l x.v)
def toIx (n : Nat) (x : Int) : Ix n := if h : (decide (0 ≤ x) && decide (x ≤ (n : Int))) = true then ⟨x, h⟩ else default
theorem toIx_v (n : Nat) (x : Int) (h : 0 ≤ x ∧ x ≤ (n : Int)) : (toIx n x).v = x := by
  unfold toIx
  rw [dif_pos (by rw [decide_eq_true h.1, decide_eq_true h.2]; rfl)]
/-- slices.SortStableFunc by lengths, at 19 numbers or fewer: an insertion sort. -/
def stableL (l o : List Int) : List Int := (insertionSort (ltOf (cfIx l (l.length - 1))) (o.map (toIx (l.length - 1))).toArray 0 o.length).toList.map (·.v)
set_option maxHeartbeats 2000000 in
theorem impl_GiveLongest.cmp (l : List Int) (A1 : Option Addr) (c1 B : Nat) (x y : Int) (W : World) (hx : 0 ≤ x ∧ x < (l.length : Int)) (hy : 0 ≤ y ∧ y < (l.length : Int)) (hb : W.cell? ⟨B, 0, none⟩ = some (.slice A1 l.length c1)) (hC : Kd.C (Kd.int .i64) W A1 l.length l) :
    Calls Try.prog 39 #[.int .i64 x, .int .i64 y, .pointer (some ⟨B, 0, none⟩)] W fun e w' => e = .returned (.int .i64 (wrap64 (rd l y - rd l x))) ∧ ∃ q, w' = W.drewN q := by
  obtain ⟨ad, e, hxx⟩ := Kd.at_int hC x hx.1 hx.2
  obtain ⟨ad2, e2, hyy⟩ := Kd.at_int hC y hy.1 hy.2
  cases e
  cases e2
  obtain ⟨x0, x1⟩ := hx
  obtain ⟨y0, y1⟩ := hy
  clear hC
  go_enter Try.func39, Try.ntmps39
  go_wp2_with fail
  go_quiet (fail)
  go_wp2
  go_ret
  exact ⟨rfl, _, rfl⟩
set_option maxHeartbeats 2000000 in
theorem impl_GiveLongest.stable48 (v fv : Value) (n : Nat) (hn : n ≤ 19) (w : World) (Q : World → Prop) (hI : Calls Try.prog 53 #[v, .int .i64 0, .int .i64 (n : Int), fv] w fun e w' => e = .returned (.tuple #[]) ∧ Q w') :
    Calls Try.prog 48 #[v, .int .i64 (n : Int), fv] w fun e w' => e = .returned (.tuple #[]) ∧ Q w' := by
  have HI := Aside0.mk hI
  have d1 : decide ((20 : Int) ≤ (n : Int)) = false := decide_eq_false (by omega)
  have d2 : decide ((20 : Int) < (n : Int)) = false := decide_eq_false (by omega)
  clear hI hn
  go_enter Try.func48, Try.ntmps48
  go_wp2
  go_loopg [7, 8] 1 (fun gg s7 s8 wr => s7 = .int .i64 0 ∧ s8 = .int .i64 20 ∧ wr = w)
  case atStart => exact ⟨rfl, rfl, rfl⟩
  case round =>
    obtain ⟨rfl, rfl, rfl⟩ := hrel
    go_wp2_with (go_at_call 53; refine HI.out.mono ?_; rintro e w' ⟨rfl, hq⟩; have HQ := Aside0.mk hq; clear hq)
    go_loopg [6] 1 (fun gg s6 wr => s6 = .int .i64 20 ∧ Aside0 (Q wr))
    case atStart => exact ⟨rfl, HQ⟩
    case round =>
      clear HQ
      obtain ⟨rfl, HQ⟩ := hrel
      go_wp2
      go_end0
      exact ⟨rfl, HQ.out⟩
set_option maxHeartbeats 2000000 in
theorem impl_GiveLongest.stable38 (A1 : Option Addr) (c1 : Nat) (fv : Value) (n : Nat) (hn : n ≤ 19) (w : World) (Q : World → Prop) (hI : Calls Try.prog 53 #[.slice A1 n c1, .int .i64 0, .int .i64 (n : Int), fv] w fun e w' => e = .returned (.tuple #[]) ∧ Q w') :
    Calls Try.prog 38 #[.slice A1 n c1, fv] w fun e w' => e = .returned (.tuple #[]) ∧ Q w' := by
  have HI := Aside0.mk (impl_GiveLongest.stable48 (.slice A1 n c1) fv n hn w Q hI)
  clear hI hn
  go_enter Try.func38, Try.ntmps38
  go_wp2_with (go_at_call 48; refine HI.out.mono ?_; rintro e w' ⟨rfl, hq⟩; have HQ := Aside0.mk hq; clear hq)
  go_end0
  exact ⟨rfl, HQ.out⟩
theorem insInner_size {α : Type} [Inhabited α] (lt : α → α → Bool) (a : Nat) : ∀ (j : Nat) (d : Array α), (insInner lt a j d).size = d.size := by
  intro j
  induction j with
  | zero => intro d; rfl
  | succ j ih =>
    intro d
    rw [insInner]
    split
    · rw [ih]
      simp [swp]
    · rfl
theorem insOuter_size {α : Type} [Inhabited α] (lt : α → α → Bool) (a b : Nat) : ∀ (g i : Nat) (d : Array α), b - i ≤ g → (insOuter lt a b i d).size = d.size := by
  intro g
  induction g with
  | zero =>
    intro i d h
    rw [insOuter, if_neg (by omega)]
  | succ g ih =>
    intro i d h
    rw [insOuter]
    split
    · rw [ih _ _ (by omega), insInner_size]
    · rfl
theorem insertion_size {α : Type} [Inhabited α] (lt : α → α → Bool) (d : Array α) (a b : Nat) : (insertionSort lt d a b).size = d.size := insOuter_size lt a b _ _ d (Nat.le_refl _)
set_option maxHeartbeats 2000000 in
theorem impl_GiveLongest.stable (P0_ : Nat → Prop) (v : Value) (o : List Int) (A1 : Option Addr) (c1 : Nat) (l : List Int) (B : Nat) (w0 w : World) (hB : Below w0.heap.size w0 w) (ho : Kd.R (Kd.int .i64) 3 w w0.heap.size P0_ v o) (hr : ∀ W_, Kept w W_ (fun k_ => P0_ k_) → Kd.C (Kd.int .i64) W_ A1 l.length l) (hb : ∀ W_, Kept w W_ (fun k_ => P0_ k_) → W_.cell? ⟨B, 0, none⟩ = some (.slice A1 l.length c1)) (hn : o.length ≤ 19) (hin : ∀ x, x ∈ o → 0 ≤ x ∧ x < (l.length : Int)) :
    Calls Try.prog 38 #[v, .func (.func 39) #[] #[.pointer (some ⟨B, 0, none⟩)]] w fun e w' => e = .returned (.tuple #[]) ∧ Kd.R (Kd.int .i64) 3 w' w0.heap.size (fun k_ => (P0_ k_ ∨ w.heap.size ≤ k_)) v (stableL l o) ∧ Below w0.heap.size w0 w' ∧ Kept w w' (fun k_ => P0_ k_) := by
  by_cases hz : o.length = 0
  · have h0 : o = [] := List.length_eq_zero_iff.1 hz
    subst h0
    obtain ⟨Av, cv, rfl⟩ := Kd.R_slice ho
    refine impl_GiveLongest.stable38 Av cv _ 0 (by omega) w _ ((AnyF.insertionSortCmpFunc_none impl_GiveLongest.lay0 Av cv _ w).mono ?_)
    rintro e w' ⟨rfl, rfl⟩
    have e0 : stableL l [] = [] := by
      unfold stableL insertionSort
      rw [insOuter, if_neg (by simp)]
      rfl
    rw [e0]
    exact ⟨rfl, Kd.R_mono ho (fun k hk => .inl hk), hB, Kept.refl _ _⟩
  · rcases R_parts ho with ⟨rfl, rfl⟩ | ⟨g, cap, cur, inner, rfl, hok, hg, hh, h1, h2, h3, h4, hreps⟩
    · exact absurd rfl hz
    · have hsz : (Kd.int .i64).sz = 1 := rfl
      have hi := Kd.reps_encs hreps
      rw [hi, hsz, Nat.mul_one] at h4
      rw [hsz] at h3
      have hl0 : 0 < l.length := by
        have := hin o[0] (List.getElem_mem (by omega))
        omega
      have hmv : (o.map (toIx (l.length - 1))).map (fun x : Ix (l.length - 1) => x.v) = o := by
        rw [List.map_map]
        conv => rhs; rw [← List.map_id o]
        refine List.map_congr_left fun x hx => ?_
        have := hin x hx
        exact toIx_v _ x (by omega)
      have hds : (o.map (toIx (l.length - 1))).toArray.size = o.length := by simp
      have hH : Holds (encIx (n := l.length - 1)) w g 0 (o.map (toIx (l.length - 1))).toArray := by
        refine holds_put encIx hh ?_
        rw [hds, h4]
        show encs (Value.int .i64) o = _
        conv => lhs; rw [← hmv]
        unfold encs
        rw [List.map_map]
        rfl
      have hcmp : CmpLays1 Try.prog 39 #[.pointer (some ⟨B, 0, none⟩)] (encIx (n := l.length - 1)) (cfIx l (l.length - 1)) g 0 (o.map (toIx (l.length - 1))).toArray.size w := by
        intro m os dk hs x y
        have hK : Kept w (sortWorld (encIx (n := l.length - 1)) w g 0 m dk os) (fun k_ => P0_ k_) := kept_put _ _ hok
        obtain ⟨xv, hx⟩ := x
        obtain ⟨yv, hy⟩ := y
        simp only [Bool.and_eq_true, decide_eq_true_eq] at hx hy
        refine (impl_GiveLongest.cmp l A1 c1 B xv yv _ (by omega) (by omega) (hb _ hK) (hr _ hK)).mono ?_
        rintro e w' ⟨rfl, q, rfl⟩
        exact ⟨rfl, q, #[], by rw [grow_empty]⟩
      have hcall := Any.insertionSortCmpFunc_s impl_GiveLongest.lay (encIx (n := l.length - 1)) (cfIx l (l.length - 1)) 39 #[.pointer (some ⟨B, 0, none⟩)] g 0 cap 0 o.length (o.map (toIx (l.length - 1))).toArray (o.map (toIx (l.length - 1))).toArray w w (Go.Proofs.enters_of Try.func39 (by kernel_rfl) rfl) hcmp ⟨fun _ => rfl, hH, blk_lt hh⟩ rfl (SW.start hH) (Nat.zero_le _) (by rw [hds]; exact Nat.le_refl _) (by rw [hds]; omega)
      rw [hds] at hcall
      refine impl_GiveLongest.stable38 (some ⟨g, 0, none⟩) cap _ o.length hn w _ (hcall.mono ?_)
      rintro e w' ⟨rfl, m, os, rfl⟩
      obtain ⟨E, hE⟩ : ∃ E, E = insertionSort (ltOf (cfIx l (l.length - 1))) (o.map (toIx (l.length - 1))).toArray 0 o.length := ⟨_, rfl⟩
      have hst : stableL l o = E.toList.map (fun x : Ix (l.length - 1) => x.v) := by rw [hE]; rfl
      have hlen : E.size = o.length := by
        rw [hE, insertion_size]
        exact hds
      have hlen2 : (E.toList.map (fun x : Ix (l.length - 1) => x.v)).length = o.length := by
        rw [List.length_map, Array.length_toList, hlen]
      rw [← hE, hst]
      refine ⟨rfl, ?_, below_put _ _ hB hg, kept_put _ _ hok⟩
      rw [← hlen2]
      refine R_put (encIx (n := l.length - 1)) _ (.inl hok) hg hh (by rw [hlen2]; exact h1) h2 h3 (by rw [hsz, Nat.mul_one, hlen2]; exact hlen) ?_
      have := Kd.reps_scalar (enc := Value.int .i64) (E.toList.map (fun x : Ix (l.length - 1) => x.v))
      unfold encs at this
      rw [List.map_map] at this
      exact this
theorem impl_GiveLongest.laid (A0 : Option Addr) (c0 : Nat) (l0 : List Int) (w : World) (nd : Nat) (v : Value) (o : List Int) (w' : World) (ho : Kd.R (Kd.int .i64) 3 w' ((w.alloc (.cells #[.slice A0 l0.length c0] 22)).drewN nd).heap.size (fun _ => True) v o) (hb : Below ((w.alloc (.cells #[.slice A0 l0.length c0] 22)).drewN nd).heap.size ((w.alloc (.cells #[.slice A0 l0.length c0] 22)).drewN nd) w') :
    Below w.heap.size w w' ∧ Kd.R (Kd.int .i64) 3 w' w.heap.size (fun k_ => w.heap.size + 1 ≤ k_) v o ∧ (∀ W_, Kept w' W_ (fun k_ => w.heap.size + 1 ≤ k_) → W_.cell? ⟨w.heap.size, 0, none⟩ = some (.slice A0 l0.length c0)) := by
  have hs : ((w.alloc (.cells #[.slice A0 l0.length c0] 22)).drewN nd).heap.size = w.heap.size + 1 := by simp
  have h0 : Below w.heap.size w ((w.alloc (.cells #[.slice A0 l0.length c0] 22)).drewN nd) := by repeat (first | exact Below.refl _ _ | apply below_alloc | apply pw_below_drewN)
  have hc : ((w.alloc (.cells #[.slice A0 l0.length c0] 22)).drewN nd).cell? ⟨w.heap.size, 0, none⟩ = some (.slice A0 l0.length c0) := by simp
  refine ⟨below_step h0 hb, Kd.R_mono (Kd.R_lower (Kd.R_bound ho) (by omega)) (fun k hk => by have := hk.2.1; omega), fun W_ hk => cell_kept (pw_cell_below hb hc) hk (by show ¬ (w.heap.size + 1 ≤ w.heap.size); omega)⟩
def impl_GiveLongest.f (k : Nat) (l0 : List Int) (a1 : Int) : Option (List Int × Int × Bool) := (impl_GoodChores.f l0 a1).bind fun t => if t = true then ((impl_inOrder.f k l0).bind fun o => if o.length ≤ 19 then (if (o.all fun x => decide (0 ≤ x) && decide (x < (l0.length : Int))) = true then impl_give.f k l0 a1 (stableL l0 o) else none) else none) else some ([], 0, false)
theorem impl_GiveLongest.mono : ∀ a0 a1 k, LeO (impl_GiveLongest.f k a0 a1) (impl_GiveLongest.f (k + 1) a0 a1) := by
  intro a0 a1 k
  unfold impl_GiveLongest.f
  repeat' first
      | (with_reducible exact impl_inOrder.mono _ _)
      | (with_reducible exact impl_give.mono _ _ _ _)
      | (with_reducible exact LeO.refl _)
      | (with_reducible refine LeO.ite ?_ ?_)
      | (with_reducible refine LeO.bind ?_ (fun _ => ?_))
set_option maxHeartbeats 4000000 in
theorem impl_GiveLongest.calls (k : Nat) (A0 : Option Addr) (c0 : Nat) (l0 : List Int) (a1 : Int) (r1 : List Int) (r2 : Int) (r3 : Bool) (w : World) (hr0 : Kd.C (Kd.int .i64) w A0 l0.length l0) (hc0 : l0.length ≤ c0) (h : impl_GiveLongest.f k l0 a1 = some (r1, r2, r3)) :
    Calls Try.prog 19 #[.slice A0 l0.length c0, .int .i64 a1] w fun e w' => ∃ v0_ : Value, e = .returned (.tuple #[v0_, .int .i64 r2, .bool r3]) ∧ Kd.R (Kd.int .i64) 3 w' w.heap.size (fun _ => True) v0_ r1 ∧ Below w.heap.size w w' := by
  unfold impl_GiveLongest.f at h
  obtain ⟨t, ht, h⟩ := Option.bind_eq_some_iff.mp h
  have HA : ∀ W, Below w.heap.size w W → _ := fun W hb => impl_GoodChores.calls A0 c0 l0 a1 t W (Kd.C_below hr0 hb) hc0 ht
  have HA' := Aside0.mk HA
  clear ht HA
  cases t with
  | false =>
    rw [if_neg (by simp)] at h
    simp only [Option.some.injEq, Prod.mk.injEq] at h
    obtain ⟨rfl, rfl, rfl⟩ := h
    clear hr0 hc0
    go_enter Try.func19, Try.ntmps19
    go_wp2_with (go_at_call 23; refine (HA'.out _ (by repeat (first | exact Below.refl _ _ | apply below_alloc | apply pw_below_drewN))).mono ?_; rintro e w' ⟨rfl, ⟨nd, rfl⟩⟩)
    go_ret3
    exact ⟨_, rfl, Kd.R_nil _ _ _ _ _, by repeat (first | exact Below.refl _ _ | apply below_alloc | apply pw_below_drewN)⟩
  | true =>
    rw [if_pos rfl] at h
    obtain ⟨o, ho, h⟩ := Option.bind_eq_some_iff.mp h
    by_cases h19 : o.length ≤ 19
    · rw [if_pos h19] at h
      by_cases hall : (o.all fun x => decide (0 ≤ x) && decide (x < (l0.length : Int))) = true
      · rw [if_pos hall] at h
        have hin : ∀ x, x ∈ o → 0 ≤ x ∧ x < (l0.length : Int) := fun x hx => by
          have := List.all_eq_true.1 hall x hx
          simpa using this
        have HR0 := Aside0.mk hr0
        have HC0 := Aside0.mk hc0
        have HO := Aside0.mk ho
        have HN := Aside0.mk h19
        have HIN := Aside0.mk hin
        have HG := Aside0.mk h
        clear hr0 hc0 ho h19 hin h hall
        go_enter Try.func19, Try.ntmps19
        go_wp2_with (first
          | (go_at_call 23; refine (HA'.out _ (by repeat (first | exact Below.refl _ _ | apply below_alloc | apply pw_below_drewN))).mono ?_; rintro e w' ⟨rfl, ⟨nd, rfl⟩⟩)
          | (go_at_call 37; refine (impl_inOrder.calls k A0 c0 l0 o _ (Kd.C_below HR0.out (by repeat (first | exact Below.refl _ _ | apply below_alloc | apply pw_below_drewN))) HC0.out HO.out).mono ?_; rintro e w' ⟨v, rfl, hov, hbv⟩; obtain ⟨hB2, hO2, hX2⟩ := impl_GiveLongest.laid A0 c0 l0 w nd v o w' hov hbv; have HB2 := Aside0.mk hB2; have HO2 := Aside0.mk hO2; have HX2 := Aside0.mk hX2; have hx2 := hX2 w' (Kept.refl _ _); clear hov hbv hB2 hO2 hX2)
          | (go_at_call 38; refine (impl_GiveLongest.stable (fun k_ => w.heap.size + 1 ≤ k_) v o A0 c0 l0 w.heap.size w _ HB2.out HO2.out (Kd.C_kept_came (Kd.heap_int .i64) HR0.out HB2.out (fun k_ hk_ => by omega)) HX2.out HN.out HIN.out).mono ?_; rintro e w3 ⟨rfl, ho3, hb3, hk3⟩; have hx3 := HX2.out w3 hk3; have HC3 := Aside0.mk (Kd.C_kept_came (Kd.heap_int .i64) HR0.out HB2.out (fun k_ hk_ => by omega) w3 hk3); have HB3 := Aside0.mk hb3; clear hx2 HX2 HO2 HB2 hb3 hk3; obtain ⟨Ao, co, eo, hco, hro⟩ := Kd.R_reads ho3; subst eo; have HRO := Aside0.mk hro; have HCO := Aside0.mk hco; clear ho3 hro hco)
          | (go_at_call 40; refine (impl_give.calls k A0 c0 l0 a1 Ao co (stableL l0 o) r1 r2 r3 _ HC3.out HC0.out HRO.out HCO.out HG.out).mono ?_; rintro e w4 ⟨v4, rfl, ho4, hb4⟩; have HO4 := Aside0.mk (Kd.R_lower ho4 (below_size HB3.out)); have HB4 := Aside0.mk (below_step HB3.out hb4); clear ho4 hb4))
        go_ret3
        exact ⟨_, rfl, HO4.out, HB4.out⟩
      · rw [if_neg hall] at h
        cases h
    · rw [if_neg h19] at h
      cases h


end Go.Proofs.Ytpicfpdpcbncmaa.P

namespace Go.Proofs.Ytpicfpdpcbncmaa.P
open Go.RowKit Go.Proofs.YtpicfpdpcbncmaaW.PrintWords Go.Proofs.YtpicfpdpcbncmaaW.PrintLast Go.Proofs.YtpicfpdpcbncmaaW.PrintMore
attribute [local go_sem] max2_int min2_int max_two min_two max_three min_three max_four min_four
set_option linter.unusedVariables false
set_option linter.unusedSimpArgs false

/-! ### laws_toIntS: function 7 -/
def laws_toIntS.l0 : Nat → List Int → List Int → Int → Option (List Int)
  | 0, _, _, _ => none
  | k + 1, x0, x3, x4 => if x4 < (x0.length : Int) then (if 0 ≤ x4 then (if x4 < (x3.length : Int) then (laws_toIntS.l0 k x0 (x3.set (x4 : Int).toNat (rd x0 x4)) (wrap64 (x4 + 1))) else (none)) else (none)) else (some x3)
def laws_toIntS.f (k : Nat) (l0 : List Int) : Option (List Int) := if 0 ≤ (l0.length : Int) then (if ((l0.length : Int) : Int).toNat ≤ 35184372088832 then (laws_toIntS.l0 k l0 (List.replicate ((l0.length : Int) : Int).toNat 0) 0) else (none)) else (none)
theorem laws_toIntS.mono_l : ∀ k, (∀ y0 y1 y2, LeO (laws_toIntS.l0 k y0 y1 y2) (laws_toIntS.l0 (k + 1) y0 y1 y2))
  | 0 => fun _ _ _ r h => by simp [laws_toIntS.l0] at h
  | k + 1 => by
    have ih0 := laws_toIntS.mono_l k
    · intro y0 y1 y2
      unfold laws_toIntS.l0
      repeat' first
      | (with_reducible exact ih0 _ _ _)
      | (with_reducible exact LeO.refl _)
      | (with_reducible exact LeO.none _)
      | (with_reducible refine LeO.ite ?_ ?_)
      | (with_reducible refine LeO.bind ?_ (fun _ => ?_))
      | exact ih0 _ _ _
      | exact LeO.none _
      | refine LeO.ite ?_ ?_
      | refine LeO.bind ?_ (fun _ => ?_)
theorem laws_toIntS.mono : ∀ a0 k, LeO (laws_toIntS.f k a0) (laws_toIntS.f (k + 1) a0) := by
  intro a0 k
  have ih0 := laws_toIntS.mono_l k
  unfold laws_toIntS.f
  repeat' first
      | (with_reducible exact ih0 _ _ _)
      | (with_reducible exact LeO.refl _)
      | (with_reducible exact LeO.none _)
      | (with_reducible refine LeO.ite ?_ ?_)
      | (with_reducible refine LeO.bind ?_ (fun _ => ?_))
      | exact ih0 _ _ _
      | exact LeO.none _
      | refine LeO.ite ?_ ?_
      | refine LeO.bind ?_ (fun _ => ?_)
set_option maxHeartbeats 8000000 in
set_option maxRecDepth 100000 in
theorem laws_toIntS.calls (k : Nat) (A0 : Option Addr) (c0 : Nat) (l0 : List Int) (r : List Int) (w : World) (hr0 : Kd.C (Kd.int .i64) w A0 l0.length l0) (hc0 : l0.length ≤ c0) (h : laws_toIntS.f k l0 = some r) :
    Calls Try.prog 7 #[.slice A0 l0.length c0] w fun e w' => ∃ v0_ : Value, e = .returned (v0_) ∧ Kd.R (Kd.int .i64) 3 w' w.heap.size (fun _ => True) v0_ r ∧ Below w.heap.size w w' := by
  have HR0 := Aside0.mk hr0
  have HC0 := Aside0.mk hc0
  clear hr0 hc0
  have HB := Aside0.mk (Below.refl w.heap.size w)
  have H : (if 0 ≤ (l0.length : Int) then (if ((l0.length : Int) : Int).toNat ≤ 35184372088832 then (laws_toIntS.l0 k l0 (List.replicate ((l0.length : Int) : Int).toNat 0) 0) else (none)) else (none)) = some r := h
  clear h
  by_cases c2 : 0 ≤ (l0.length : Int)
  · rw [if_pos c2] at H
    have c2b0 := eq_true c2
    have c2b1 : decide (0 ≤ (l0.length : Int)) = true := decide_eq_true c2
    clear c2
    by_cases c3 : ((l0.length : Int) : Int).toNat ≤ 35184372088832
    · rw [if_pos c3] at H
      have c3b0 := eq_true c3
      have c3b1 : decide (((l0.length : Int) : Int).toNat ≤ 35184372088832) = true := decide_eq_true c3
      clear c3
      obtain ⟨y101, hy101⟩ : ∃ y_ : List Int, y_ = (List.replicate ((l0.length : Int) : Int).toNat 0) := ⟨_, rfl⟩
      replace H : (laws_toIntS.l0 k l0 y101 0) = some r := by first | (rw [hy101]; with_reducible exact H) | (have H2_ := (Option.bind_some _ _).symm.trans H; rw [hy101]; with_reducible exact H2_) | (have H2_ := (Option.bind_some _ _).symm.trans H; with_reducible exact H2_) | with_reducible exact H | (rw [hy101]; exact H) | exact H
      have Ny101 := Aside0.mk hy101
      clear hy101
      have H' := Aside0.mk H
      clear H
      go_enter Try.func7, Try.ntmps7
      go_wp2_with (first | ((with_reducible refine gate_dst (N := 7) rfl ?_); refine Kd.R_make (Kd.int .i64) _ 3 rfl (N := 7) rfl 22 _ _ rfl (l0.length : Int) rfl rfl Try.underlying22 (.int .i64 0) 8 info3 rfl (by decide) (by omega) 0 (ok := fun _ => True) (okp := fun _ => True) rfl (fun _ hk => hk) trivial (of_decide_eq_true (by first | (with_reducible assumption) | assumption)) (Nat.le_trans (Nat.mul_le_mul_right _ (of_decide_eq_true (by first | (with_reducible assumption) | assumption) : (l0.length : Int).toNat ≤ 35184372088832)) (by omega)) (Below.refl _ _) (Nat.le_refl _) ?_; intro v102 w4 ho5 hb hg_ hnew_; clear hg_ hnew_; (first | rw [← Ny101.out] at ho5 | (simp only [Int.reduceToNat] at ho5; rw [← Ny101.out] at ho5)); have n0_ := Aside0.mk (Kd.R_lower ho5 (below_size (by repeat (first | (with_reducible first | exact HB.out | apply below_alloc | apply pw_below_drewN | apply below_drew1) | exact HB.out)))); have n1_ := Aside0.mk (below_step (by repeat (first | (with_reducible first | exact HB.out | apply below_alloc | apply pw_below_drewN | apply below_drew1) | exact HB.out)) hb); clear HB; have HO103 := n0_; have HB := n1_; clear n0_ n1_; clear hb ho5))
      go_loopg [4] k (fun kq v4 w' => ∃ (x3_1 : List Int) (x4_1 : Int), v4 = .int .i64 x4_1 ∧ Aside0 (laws_toIntS.l0 kq l0 x3_1 x4_1 = some r) ∧ Aside0 (kq ≤ k) ∧ Aside0 (Kd.R (Kd.int .i64) 3 w' w.heap.size (fun _ => True) v102 x3_1) ∧ Aside0 (Below w.heap.size w w'))
      case atStart => exact ⟨(y101), (0), (by first | rfl | (simp; done) | (simp [*]; done)), H', ⟨Nat.le_refl _⟩, ⟨by (with_reducible repeat (first | apply Kd.R_alloc | apply Kd.R_drewN | apply Kd.R_drew)); exact HO103.out⟩, ⟨by repeat (first | (with_reducible first | exact HB.out | apply below_alloc | apply pw_below_drewN | apply below_drew1) | exact HB.out)⟩⟩
      case round =>
        clear H'
        try clear c2
        try clear c2b0
        try clear c2b1
        try clear p2
        try clear c3
        try clear c3b0
        try clear c3b1
        obtain ⟨x3_1, x4_1, rfl, HA, HK1, HO_3, HB⟩ := hrel
        cases gk with
        | zero => exact absurd HA.out (by simp [laws_toIntS.l0])
        | succ k1 =>
          have H := HA.out
          clear HA
          simp only [laws_toIntS.l0] at H
          by_cases c6 : x4_1 < (l0.length : Int)
          · rw [if_pos c6] at H
            have c6b0 : decide (x4_1 < (l0.length : Int)) = true := decide_eq_true c6
            clear c6
            by_cases c7 : 0 ≤ x4_1
            · rw [if_pos c7] at H
              have c7b0 : decide (0 ≤ x4_1) = true := decide_eq_true c7
              clear c7
              by_cases c8 : x4_1 < (x3_1.length : Int)
              · rw [if_pos c8] at H
                have c8b0 : decide (x4_1 < (x3_1.length : Int)) = true := decide_eq_true c8
                clear c8
                obtain ⟨y105, hy105⟩ : ∃ y_ : List Int, y_ = (x3_1.set (x4_1 : Int).toNat (rd l0 x4_1)) := ⟨_, rfl⟩
                replace H : (laws_toIntS.l0 k1 l0 y105 (wrap64 (x4_1 + 1))) = some r := by first | (rw [hy105]; with_reducible exact H) | (have H2_ := (Option.bind_some _ _).symm.trans H; rw [hy105]; with_reducible exact H2_) | (have H2_ := (Option.bind_some _ _).symm.trans H; with_reducible exact H2_) | with_reducible exact H | (rw [hy105]; exact H) | exact H
                have Ny105 := Aside0.mk hy105
                clear hy105
                have H' := Aside0.mk H
                clear H
                have p104 : 0 ≤ (x4_1 : Int) := of_decide_eq_true (by first | (with_reducible assumption) | assumption)
                have q104 : x4_1 < (l0.length : Int) := of_decide_eq_true (by first | (with_reducible assumption) | assumption)
                obtain ⟨ad104, e104, hx104_0⟩ := Kd.at_int HR0.out x4_1 p104 q104
                cases e104
                replace hx104_0 := (HB.out.cell (World.block_lt_of_cell? w _ hx104_0)).trans hx104_0
                replace p104 := eq_true p104
                replace q104 := eq_true q104
                have p9 : 0 ≤ (x4_1 : Int) := of_decide_eq_true (by first | (with_reducible assumption) | assumption)
                have q9 : (x4_1 : Int) < ((x3_1.length : Int) : Int) := of_decide_eq_true (by first | (with_reducible assumption) | assumption)
                obtain ⟨go9, co9, eo9, gb9, gl9, cl9, HG9⟩ := Kd.R_form HO_3.out (by omega)
                (first | cases eo9 | (injection eo9 with ea_ en_ ec_; (first | subst ea_ | (injection ea_ with ea_; subst ea_)); subst ec_; clear en_))
                have GB9 := Aside0.mk gb9
                have GG9 := Aside0.mk HG9
                clear gb9 gl9 HG9
                obtain ⟨hx9_0, hf9_0⟩ := Kd.R_celln 0 HO_3.out (x4_1 : Int) p9 q9
                replace p9 := eq_true p9
                replace q9 := eq_true q9
                have HP10 := Kd.R_putg HO_3.out (x4_1 : Int) (rd l0 x4_1)
                go_wp2_with (first | ((with_reducible refine gate_store (t := 3) (p := 20) rfl ?_); refine store_event (t := 3) (p := 20) (v := ?vo_w11) (w1 := (wr.setCell ⟨go9, (x4_1 : Int).toNat, none⟩ (.int .i64 (rd l0 x4_1)))) ?hg ?ho ?hn ?hr ?_; (case ho => rfl); (case hg => rfl); (case hn => rfl); (case hr => first | (go_simp; done) | (go_simp; rfl)); intro w11 hw; have hg : wr.grownBy w11 (some go9) := (by rw [hw]; exact HP10.2); have hp_ : Kd.R (Kd.int .i64) 3 w11 w.heap.size (fun _ => True) (.slice (some ⟨go9, 0, none⟩) x3_1.length co9) y105 := (by rw [hw, Ny105.out]; exact HP10.1); clear HP10; have n0_ := Aside0.mk (hp_); have n1_ := Aside0.mk ((by rw [hw]; exact below_set (HB.out) GB9.out : Below w.heap.size w w11)); clear HO_3; clear HB; have HO_3 := n0_; have HB := n1_; clear n0_ n1_; clear hg hw hp_))
                go_roundg k1
                case measure => have := HK1.out; omega
                case rel => exact ⟨(y105), (wrap64 (x4_1 + 1)), (by first | rfl | (simp; done) | (simp [*]; done)), H', ⟨by have := HK1.out; omega⟩, ⟨by (with_reducible repeat (first | apply Kd.R_alloc | apply Kd.R_drewN | apply Kd.R_drew)); exact HO_3.out⟩, ⟨by repeat (first | (with_reducible first | exact HB.out | apply below_alloc | apply pw_below_drewN | apply below_drew1) | exact HB.out)⟩⟩
              · rw [if_neg c8] at H
                exact absurd H (by simp)
            · rw [if_neg c7] at H
              exact absurd H (by simp)
          · rw [if_neg c6] at H
            have c6b0 : decide (x4_1 < (l0.length : Int)) = false := decide_eq_false c6
            clear c6
            obtain rfl := Option.some.inj H
            go_wp2
            go_ret
            exact ⟨_, by first | rfl | (simp [errW_none, errW_some] <;> rfl) | (simp [*, errW_none, errW_some] <;> rfl), by (with_reducible repeat (first | apply Kd.R_alloc | apply Kd.R_drewN | apply Kd.R_drew)); exact HO_3.out, by repeat (first | (with_reducible first | exact HB.out | apply below_alloc | apply pw_below_drewN | apply below_drew1) | exact HB.out)⟩
    · rw [if_neg c3] at H
      exact absurd H (by simp)
  · rw [if_neg c2] at H
    exact absurd H (by simp)

end Go.Proofs.Ytpicfpdpcbncmaa.P

namespace Go.Proofs.Ytpicfpdpcbncmaa.P
open Go.RowKit Go.Proofs.YtpicfpdpcbncmaaW.PrintWords Go.Proofs.YtpicfpdpcbncmaaW.PrintLast Go.Proofs.YtpicfpdpcbncmaaW.PrintMore
attribute [local go_sem] max2_int min2_int max_two min_two max_three min_three max_four min_four
set_option linter.unusedVariables false
set_option linter.unusedSimpArgs false

/-! ### laws_eqIntS: function 9 -/
def laws_eqIntS.l0 : Nat → List Int → List Int → Int → Option (Bool)
  | 0, _, _, _ => none
  | k + 1, x0, x1, x5 => if x5 < (x0.length : Int) then (if 0 ≤ x5 then (if x5 < (x1.length : Int) then (if (rd x0 x5) = (rd x1 x5) then (laws_eqIntS.l0 k x0 x1 (wrap64 (x5 + 1))) else (some false)) else (none)) else (none)) else (some true)
def laws_eqIntS.f (k : Nat) (l0 : List Int) (l1 : List Int) : Option (Bool) := if (l0.length : Int) = (l1.length : Int) then (laws_eqIntS.l0 k l0 l1 0) else (some false)
theorem laws_eqIntS.mono_l : ∀ k, (∀ y0 y1 y2, LeO (laws_eqIntS.l0 k y0 y1 y2) (laws_eqIntS.l0 (k + 1) y0 y1 y2))
  | 0 => fun _ _ _ r h => by simp [laws_eqIntS.l0] at h
  | k + 1 => by
    have ih0 := laws_eqIntS.mono_l k
    · intro y0 y1 y2
      unfold laws_eqIntS.l0
      repeat' first
      | (with_reducible exact ih0 _ _ _)
      | (with_reducible exact LeO.refl _)
      | (with_reducible exact LeO.none _)
      | (with_reducible refine LeO.ite ?_ ?_)
      | (with_reducible refine LeO.bind ?_ (fun _ => ?_))
      | exact ih0 _ _ _
      | exact LeO.none _
      | refine LeO.ite ?_ ?_
      | refine LeO.bind ?_ (fun _ => ?_)
theorem laws_eqIntS.mono : ∀ a0 a1 k, LeO (laws_eqIntS.f k a0 a1) (laws_eqIntS.f (k + 1) a0 a1) := by
  intro a0 a1 k
  have ih0 := laws_eqIntS.mono_l k
  unfold laws_eqIntS.f
  repeat' first
      | (with_reducible exact ih0 _ _ _)
      | (with_reducible exact LeO.refl _)
      | (with_reducible exact LeO.none _)
      | (with_reducible refine LeO.ite ?_ ?_)
      | (with_reducible refine LeO.bind ?_ (fun _ => ?_))
      | exact ih0 _ _ _
      | exact LeO.none _
      | refine LeO.ite ?_ ?_
      | refine LeO.bind ?_ (fun _ => ?_)
set_option maxHeartbeats 8000000 in
set_option maxRecDepth 100000 in
theorem laws_eqIntS.calls (k : Nat) (A0 : Option Addr) (c0 : Nat) (l0 : List Int) (A1 : Option Addr) (c1 : Nat) (l1 : List Int) (r : Bool) (w : World) (hr0 : Kd.C (Kd.int .i64) w A0 l0.length l0) (hc0 : l0.length ≤ c0) (hr1 : Kd.C (Kd.int .i64) w A1 l1.length l1) (hc1 : l1.length ≤ c1) (h : laws_eqIntS.f k l0 l1 = some r) :
    Calls Try.prog 9 #[.slice A0 l0.length c0, .slice A1 l1.length c1] w fun e w' => e = .returned (.bool r) ∧ Drawn0 w w' := by
  have HR0 := Aside0.mk hr0
  have HC0 := Aside0.mk hc0
  clear hr0 hc0
  have HR1 := Aside0.mk hr1
  have HC1 := Aside0.mk hc1
  clear hr1 hc1
  have H : (if (l0.length : Int) = (l1.length : Int) then (laws_eqIntS.l0 k l0 l1 0) else (some false)) = some r := h
  clear h
  by_cases c3 : (l0.length : Int) = (l1.length : Int)
  · rw [if_pos c3] at H
    have c3b0 : ((l0.length : Int) == (l1.length : Int)) = true := beq_iff_eq.mpr c3
    have c3b1 : ((l0.length : Int) != (l1.length : Int)) = false := bne_eq_false_iff_eq.mpr c3
    have c3b2 : (l0.length == l1.length) = true := by first | simpa using c3 | (simp at c3 ⊢; omega)
    clear c3
    have H' := Aside0.mk H
    clear H
    go_enter Try.func9, Try.ntmps9
    go_wp2
    repeat (go_quiet (fail); try go_wp2)
    go_loopg [5] k (fun kq v5 w' => ∃ (x5_1 : Int), v5 = .int .i64 x5_1 ∧ Aside0 (laws_eqIntS.l0 kq l0 l1 x5_1 = some r) ∧ Aside0 (kq ≤ k) ∧ Drawn0 w w')
    case atStart => exact ⟨(0), (by first | rfl | (simp; done) | (simp [*]; done)), H', ⟨Nat.le_refl _⟩, by repeat (first | exact Drawn0.refl _ | apply Drawn0.step)⟩
    case round =>
      clear H'
      try clear c1
      try clear p2
      try clear c3
      try clear c3b0
      try clear c3b1
      try clear c3b2
      obtain ⟨x5_1, rfl, HA, HK1, ⟨m1, rfl⟩⟩ := hrel
      cases gk with
      | zero => exact absurd HA.out (by simp [laws_eqIntS.l0])
      | succ k1 =>
        have H := HA.out
        clear HA
        simp only [laws_eqIntS.l0] at H
        by_cases c4 : x5_1 < (l0.length : Int)
        · rw [if_pos c4] at H
          have c4b0 : decide (x5_1 < (l0.length : Int)) = true := decide_eq_true c4
          clear c4
          by_cases c5 : 0 ≤ x5_1
          · rw [if_pos c5] at H
            have c5b0 : decide (0 ≤ x5_1) = true := decide_eq_true c5
            clear c5
            by_cases c6 : x5_1 < (l1.length : Int)
            · rw [if_pos c6] at H
              have c6b0 : decide (x5_1 < (l1.length : Int)) = true := decide_eq_true c6
              clear c6
              by_cases c7 : (rd l0 x5_1) = (rd l1 x5_1)
              · rw [if_pos c7] at H
                have c7b0 : ((rd l0 x5_1) == (rd l1 x5_1)) = true := beq_iff_eq.mpr c7
                have c7b1 : ((rd l0 x5_1) != (rd l1 x5_1)) = false := bne_eq_false_iff_eq.mpr c7
                clear c7
                have H' := Aside0.mk H
                clear H
                have p101 : 0 ≤ (x5_1 : Int) := of_decide_eq_true (by first | (with_reducible assumption) | assumption)
                have q101 : x5_1 < (l0.length : Int) := of_decide_eq_true (by first | (with_reducible assumption) | assumption)
                obtain ⟨ad101, e101, hx101_0⟩ := Kd.at_int HR0.out x5_1 p101 q101
                cases e101
                replace p101 := eq_true p101
                replace q101 := eq_true q101
                have p102 : 0 ≤ (x5_1 : Int) := of_decide_eq_true (by first | (with_reducible assumption) | assumption)
                have q102 : x5_1 < (l1.length : Int) := of_decide_eq_true (by first | (with_reducible assumption) | assumption)
                obtain ⟨ad102, e102, hx102_0⟩ := Kd.at_int HR1.out x5_1 p102 q102
                cases e102
                replace p102 := eq_true p102
                replace q102 := eq_true q102
                go_wp2
                repeat (go_quiet (fail); try go_wp2)
                go_roundg k1
                case measure => have := HK1.out; omega
                case rel => exact ⟨(wrap64 (x5_1 + 1)), (by first | rfl | (simp; done) | (simp [*]; done)), H', ⟨by have := HK1.out; omega⟩, by repeat (first | exact Drawn0.refl _ | apply Drawn0.step)⟩
              · rw [if_neg c7] at H
                have c7b0 : ((rd l0 x5_1) == (rd l1 x5_1)) = false := beq_eq_false_iff_ne.mpr c7
                have c7b1 : ((rd l0 x5_1) != (rd l1 x5_1)) = true := bne_iff_ne.mpr c7
                obtain rfl := Option.some.inj H
                have p101 : 0 ≤ (x5_1 : Int) := of_decide_eq_true (by first | (with_reducible assumption) | assumption)
                have q101 : x5_1 < (l0.length : Int) := of_decide_eq_true (by first | (with_reducible assumption) | assumption)
                obtain ⟨ad101, e101, hx101_0⟩ := Kd.at_int HR0.out x5_1 p101 q101
                cases e101
                replace p101 := eq_true p101
                replace q101 := eq_true q101
                have p102 : 0 ≤ (x5_1 : Int) := of_decide_eq_true (by first | (with_reducible assumption) | assumption)
                have q102 : x5_1 < (l1.length : Int) := of_decide_eq_true (by first | (with_reducible assumption) | assumption)
                obtain ⟨ad102, e102, hx102_0⟩ := Kd.at_int HR1.out x5_1 p102 q102
                cases e102
                replace p102 := eq_true p102
                replace q102 := eq_true q102
                go_wp2
                repeat (go_quiet (fail); try go_wp2)
                go_ret
                exact ⟨by first | rfl | (simp; done) | (simp [*]; done), by repeat (first | exact Drawn0.refl _ | apply Drawn0.step)⟩
            · rw [if_neg c6] at H
              exact absurd H (by simp)
          · rw [if_neg c5] at H
            exact absurd H (by simp)
        · rw [if_neg c4] at H
          have c4b0 : decide (x5_1 < (l0.length : Int)) = false := decide_eq_false c4
          clear c4
          obtain rfl := Option.some.inj H
          go_wp2
          repeat (go_quiet (fail); try go_wp2)
          go_ret
          exact ⟨by first | rfl | (simp; done) | (simp [*]; done), by repeat (first | exact Drawn0.refl _ | apply Drawn0.step)⟩
  · rw [if_neg c3] at H
    have c3b0 : ((l0.length : Int) == (l1.length : Int)) = false := beq_eq_false_iff_ne.mpr c3
    have c3b1 : ((l0.length : Int) != (l1.length : Int)) = true := bne_iff_ne.mpr c3
    have c3b2 : (l0.length == l1.length) = false := by first | simpa using c3 | (simp at c3 ⊢; omega)
    obtain rfl := Option.some.inj H
    go_enter Try.func9, Try.ntmps9
    go_wp2
    repeat (go_quiet (fail); try go_wp2)
    go_ret
    exact ⟨by first | rfl | (simp; done) | (simp [*]; done), by repeat (first | exact Drawn0.refl _ | apply Drawn0.step)⟩

end Go.Proofs.Ytpicfpdpcbncmaa.P

namespace Go.Proofs.Ytpicfpdpcbncmaa.P
open Go.RowKit Go.Proofs.YtpicfpdpcbncmaaW.PrintWords Go.Proofs.YtpicfpdpcbncmaaW.PrintLast Go.Proofs.YtpicfpdpcbncmaaW.PrintMore
attribute [local go_sem] max2_int min2_int max_two min_two max_three min_three max_four min_four
set_option linter.unusedVariables false
set_option linter.unusedSimpArgs false

/-! ### laws_FnExactGiveLongest: function 5 -/
mutual
def laws_FnExactGiveLongest.j0 : Nat → List Int → Int → List Int → Int → Bool → List Int → List Int → Int → Bool → Bool → Option (Bool)
  | 0, _, _, _, _, _, _, _, _, _, _ => none
  | k + 1, x0, x1, x5, x6, x7, x8, x9, x10, x11, x51 => if x51 = true then (some false) else ((laws_toIntS.f k x0).bind fun t118 => ((laws_eqIntS.f k x8 t118).bind fun t121 => (if t121 = true then ((laws_markIntS.f k x8 1).bind fun bt122 => (if bt122.1 < 0 then (laws_FnExactGiveLongest.j1 k x0 x1 x5 x6 x7 x9 true) else ((laws_eqIntS.f k x9 x5).bind fun t124 => (if t124 = true then (if x10 = x6 then (laws_FnExactGiveLongest.j1 k x0 x1 x5 x6 x7 x9 (x11 != x7)) else (laws_FnExactGiveLongest.j1 k x0 x1 x5 x6 x7 x9 true)) else (laws_FnExactGiveLongest.j1 k x0 x1 x5 x6 x7 x9 true))))) else (some false))))
def laws_FnExactGiveLongest.j1 : Nat → List Int → Int → List Int → Int → Bool → List Int → Bool → Option (Bool)
  | 0, _, _, _, _, _, _, _ => none
  | k + 1, x0, x1, x5, x6, x7, x9, x77 => if x77 = true then (some false) else ((laws_markIntS.f k x9 1).bind fun bt125 => ((laws_heldIntS.f k bt125.2 1).bind fun t127 => (if t127 < 0 then (some false) else (if t127 = bt125.1 then ((laws_toIntS.f k x0).bind fun t128 => ((impl_GiveLongest.f k t128 x1).bind fun bt131 => ((laws_eqIntS.f k bt131.1 x5).bind fun t136 => (if t136 = true then (if bt131.2.1 = x6 then (laws_FnExactGiveLongest.j2 k bt125.2 bt125.1 (bt131.2.2 != x7)) else (laws_FnExactGiveLongest.j2 k bt125.2 bt125.1 true)) else (laws_FnExactGiveLongest.j2 k bt125.2 bt125.1 true))))) else (some false)))))
def laws_FnExactGiveLongest.j2 : Nat → List Int → Int → Bool → Option (Bool)
  | 0, _, _, _ => none
  | k + 1, x9, x13, x110 => if x110 = true then (some false) else ((laws_heldIntS.f k x9 1).bind fun t137 => (if t137 < 0 then (some false) else (if t137 = x13 then (some true) else (some false))))
end
def laws_FnExactGiveLongest.f (k : Nat) (l0 : List Int) (a1 : Int) : Option (Bool) := if (l0.length : Int) > 1048576 then (some true) else ((laws_toIntS.f k l0).bind fun t101 => ((spec_GiveLongest.f k t101 a1).bind fun bt104 => ((laws_toIntS.f k l0).bind fun t109 => ((impl_GiveLongest.f k t109 a1).bind fun bt112 => ((laws_eqIntS.f k bt112.1 bt104.1).bind fun t117 => (if t117 = true then (if bt112.2.1 = bt104.2.1 then (laws_FnExactGiveLongest.j0 k l0 a1 bt104.1 bt104.2.1 bt104.2.2 t109 bt112.1 bt112.2.1 bt112.2.2 (bt112.2.2 != bt104.2.2)) else (laws_FnExactGiveLongest.j0 k l0 a1 bt104.1 bt104.2.1 bt104.2.2 t109 bt112.1 bt112.2.1 bt112.2.2 true)) else (laws_FnExactGiveLongest.j0 k l0 a1 bt104.1 bt104.2.1 bt104.2.2 t109 bt112.1 bt112.2.1 bt112.2.2 true)))))))
theorem laws_FnExactGiveLongest.mono_l : ∀ k, (∀ y0 y1 y2 y3 y4 y5 y6 y7 y8 y9, LeO (laws_FnExactGiveLongest.j0 k y0 y1 y2 y3 y4 y5 y6 y7 y8 y9) (laws_FnExactGiveLongest.j0 (k + 1) y0 y1 y2 y3 y4 y5 y6 y7 y8 y9)) ∧ (∀ y0 y1 y2 y3 y4 y5 y6, LeO (laws_FnExactGiveLongest.j1 k y0 y1 y2 y3 y4 y5 y6) (laws_FnExactGiveLongest.j1 (k + 1) y0 y1 y2 y3 y4 y5 y6)) ∧ (∀ y0 y1 y2, LeO (laws_FnExactGiveLongest.j2 k y0 y1 y2) (laws_FnExactGiveLongest.j2 (k + 1) y0 y1 y2))
  | 0 => ⟨fun _ _ _ _ _ _ _ _ _ _ r h => by simp [laws_FnExactGiveLongest.j0] at h, fun _ _ _ _ _ _ _ r h => by simp [laws_FnExactGiveLongest.j1] at h, fun _ _ _ r h => by simp [laws_FnExactGiveLongest.j2] at h⟩
  | k + 1 => by
    obtain ⟨ih0, ih1, ih2⟩ := laws_FnExactGiveLongest.mono_l k
    refine ⟨?_, ?_, ?_⟩
    · intro y0 y1 y2 y3 y4 y5 y6 y7 y8 y9
      unfold laws_FnExactGiveLongest.j0
      repeat' first
      | (with_reducible exact ih0 _ _ _ _ _ _ _ _ _ _)
      | (with_reducible exact ih1 _ _ _ _ _ _ _)
      | (with_reducible exact ih2 _ _ _)
      | (with_reducible exact impl_GiveLongest.mono _ _ _)
      | (with_reducible exact laws_eqIntS.mono _ _ _)
      | (with_reducible exact laws_heldIntS.mono _ _ _)
      | (with_reducible exact laws_markIntS.mono _ _ _)
      | (with_reducible exact laws_toIntS.mono _ _)
      | (with_reducible exact spec_GiveLongest.mono _ _ _)
      | (with_reducible exact LeO.refl _)
      | (with_reducible exact LeO.none _)
      | (with_reducible refine LeO.ite ?_ ?_)
      | (with_reducible refine LeO.bind ?_ (fun _ => ?_))
      | exact ih0 _ _ _ _ _ _ _ _ _ _
      | exact ih1 _ _ _ _ _ _ _
      | exact ih2 _ _ _
      | exact impl_GiveLongest.mono _ _ _
      | exact laws_eqIntS.mono _ _ _
      | exact laws_heldIntS.mono _ _ _
      | exact laws_markIntS.mono _ _ _
      | exact laws_toIntS.mono _ _
      | exact spec_GiveLongest.mono _ _ _
      | exact LeO.none _
      | refine LeO.ite ?_ ?_
      | refine LeO.bind ?_ (fun _ => ?_)
    · intro y0 y1 y2 y3 y4 y5 y6
      unfold laws_FnExactGiveLongest.j1
      repeat' first
      | (with_reducible exact ih0 _ _ _ _ _ _ _ _ _ _)
      | (with_reducible exact ih1 _ _ _ _ _ _ _)
      | (with_reducible exact ih2 _ _ _)
      | (with_reducible exact impl_GiveLongest.mono _ _ _)
      | (with_reducible exact laws_eqIntS.mono _ _ _)
      | (with_reducible exact laws_heldIntS.mono _ _ _)
      | (with_reducible exact laws_markIntS.mono _ _ _)
      | (with_reducible exact laws_toIntS.mono _ _)
      | (with_reducible exact spec_GiveLongest.mono _ _ _)
      | (with_reducible exact LeO.refl _)
      | (with_reducible exact LeO.none _)
      | (with_reducible refine LeO.ite ?_ ?_)
      | (with_reducible refine LeO.bind ?_ (fun _ => ?_))
      | exact ih0 _ _ _ _ _ _ _ _ _ _
      | exact ih1 _ _ _ _ _ _ _
      | exact ih2 _ _ _
      | exact impl_GiveLongest.mono _ _ _
      | exact laws_eqIntS.mono _ _ _
      | exact laws_heldIntS.mono _ _ _
      | exact laws_markIntS.mono _ _ _
      | exact laws_toIntS.mono _ _
      | exact spec_GiveLongest.mono _ _ _
      | exact LeO.none _
      | refine LeO.ite ?_ ?_
      | refine LeO.bind ?_ (fun _ => ?_)
    · intro y0 y1 y2
      unfold laws_FnExactGiveLongest.j2
      repeat' first
      | (with_reducible exact ih0 _ _ _ _ _ _ _ _ _ _)
      | (with_reducible exact ih1 _ _ _ _ _ _ _)
      | (with_reducible exact ih2 _ _ _)
      | (with_reducible exact impl_GiveLongest.mono _ _ _)
      | (with_reducible exact laws_eqIntS.mono _ _ _)
      | (with_reducible exact laws_heldIntS.mono _ _ _)
      | (with_reducible exact laws_markIntS.mono _ _ _)
      | (with_reducible exact laws_toIntS.mono _ _)
      | (with_reducible exact spec_GiveLongest.mono _ _ _)
      | (with_reducible exact LeO.refl _)
      | (with_reducible exact LeO.none _)
      | (with_reducible refine LeO.ite ?_ ?_)
      | (with_reducible refine LeO.bind ?_ (fun _ => ?_))
      | exact ih0 _ _ _ _ _ _ _ _ _ _
      | exact ih1 _ _ _ _ _ _ _
      | exact ih2 _ _ _
      | exact impl_GiveLongest.mono _ _ _
      | exact laws_eqIntS.mono _ _ _
      | exact laws_heldIntS.mono _ _ _
      | exact laws_markIntS.mono _ _ _
      | exact laws_toIntS.mono _ _
      | exact spec_GiveLongest.mono _ _ _
      | exact LeO.none _
      | refine LeO.ite ?_ ?_
      | refine LeO.bind ?_ (fun _ => ?_)
theorem laws_FnExactGiveLongest.mono : ∀ a0 a1 k, LeO (laws_FnExactGiveLongest.f k a0 a1) (laws_FnExactGiveLongest.f (k + 1) a0 a1) := by
  intro a0 a1 k
  obtain ⟨ih0, ih1, ih2⟩ := laws_FnExactGiveLongest.mono_l k
  unfold laws_FnExactGiveLongest.f
  repeat' first
      | (with_reducible exact ih0 _ _ _ _ _ _ _ _ _ _)
      | (with_reducible exact ih1 _ _ _ _ _ _ _)
      | (with_reducible exact ih2 _ _ _)
      | (with_reducible exact impl_GiveLongest.mono _ _ _)
      | (with_reducible exact laws_eqIntS.mono _ _ _)
      | (with_reducible exact laws_heldIntS.mono _ _ _)
      | (with_reducible exact laws_markIntS.mono _ _ _)
      | (with_reducible exact laws_toIntS.mono _ _)
      | (with_reducible exact spec_GiveLongest.mono _ _ _)
      | (with_reducible exact LeO.refl _)
      | (with_reducible exact LeO.none _)
      | (with_reducible refine LeO.ite ?_ ?_)
      | (with_reducible refine LeO.bind ?_ (fun _ => ?_))
      | exact ih0 _ _ _ _ _ _ _ _ _ _
      | exact ih1 _ _ _ _ _ _ _
      | exact ih2 _ _ _
      | exact impl_GiveLongest.mono _ _ _
      | exact laws_eqIntS.mono _ _ _
      | exact laws_heldIntS.mono _ _ _
      | exact laws_markIntS.mono _ _ _
      | exact laws_toIntS.mono _ _
      | exact spec_GiveLongest.mono _ _ _
      | exact LeO.none _
      | refine LeO.ite ?_ ?_
      | refine LeO.bind ?_ (fun _ => ?_)
set_option maxHeartbeats 8000000 in
set_option maxRecDepth 100000 in
theorem laws_FnExactGiveLongest.calls (k : Nat) (A0 : Option Addr) (c0 : Nat) (l0 : List Int) (a1 : Int) (r : Bool) (w : World) (hr0 : Kd.C (Kd.int .i64) w A0 l0.length l0) (hc0 : l0.length ≤ c0) (h : laws_FnExactGiveLongest.f k l0 a1 = some r) :
    Calls Try.prog 5 #[.slice A0 l0.length c0, .int .i64 a1] w fun e w' => e = .returned (.bool r) ∧ Below w.heap.size w w' := by
  have HR0 := Aside0.mk hr0
  have HC0 := Aside0.mk hc0
  clear hr0 hc0
  have HB := Aside0.mk (Below.refl w.heap.size w)
  have H : (if (l0.length : Int) > 1048576 then (some true) else ((laws_toIntS.f k l0).bind fun t101 => ((spec_GiveLongest.f k t101 a1).bind fun bt104 => ((laws_toIntS.f k l0).bind fun t109 => ((impl_GiveLongest.f k t109 a1).bind fun bt112 => ((laws_eqIntS.f k bt112.1 bt104.1).bind fun t117 => (if t117 = true then (if bt112.2.1 = bt104.2.1 then (laws_FnExactGiveLongest.j0 k l0 a1 bt104.1 bt104.2.1 bt104.2.2 t109 bt112.1 bt112.2.1 bt112.2.2 (bt112.2.2 != bt104.2.2)) else (laws_FnExactGiveLongest.j0 k l0 a1 bt104.1 bt104.2.1 bt104.2.2 t109 bt112.1 bt112.2.1 bt112.2.2 true)) else (laws_FnExactGiveLongest.j0 k l0 a1 bt104.1 bt104.2.1 bt104.2.2 t109 bt112.1 bt112.2.1 bt112.2.2 true)))))))) = some r := h
  clear h
  by_cases c3 : (l0.length : Int) > 1048576
  · rw [if_pos c3] at H
    have c3b0 : decide (1048576 < (l0.length : Int)) = true := decide_eq_true c3
    have c3b1 : decide (1048576 < l0.length) = true := decide_eq_true (by omega)
    clear c3
    obtain rfl := Option.some.inj H
    go_enter Try.func5, Try.ntmps5
    go_wp2
    go_ret
    exact ⟨by first | rfl | (simp [errW_none, errW_some] <;> rfl) | (simp [*, errW_none, errW_some] <;> rfl), by repeat (first | (with_reducible first | exact HB.out | apply below_alloc | apply pw_below_drewN | apply below_drew1) | exact HB.out)⟩
  · rw [if_neg c3] at H
    have c3b0 : decide (1048576 < (l0.length : Int)) = false := decide_eq_false c3
    have c3b1 : decide (1048576 < l0.length) = false := decide_eq_false (by omega)
    clear c3
    replace H := Option.bind_eq_some_iff.mp H
    obtain ⟨t101, A40, H⟩ := H
    replace H : ((spec_GiveLongest.f k t101 a1).bind fun bt104 => ((laws_toIntS.f k l0).bind fun t109 => ((impl_GiveLongest.f k t109 a1).bind fun bt112 => ((laws_eqIntS.f k bt112.1 bt104.1).bind fun t117 => (if t117 = true then (if bt112.2.1 = bt104.2.1 then (laws_FnExactGiveLongest.j0 k l0 a1 bt104.1 bt104.2.1 bt104.2.2 t109 bt112.1 bt112.2.1 bt112.2.2 (bt112.2.2 != bt104.2.2)) else (laws_FnExactGiveLongest.j0 k l0 a1 bt104.1 bt104.2.1 bt104.2.2 t109 bt112.1 bt112.2.1 bt112.2.2 true)) else (laws_FnExactGiveLongest.j0 k l0 a1 bt104.1 bt104.2.1 bt104.2.2 t109 bt112.1 bt112.2.1 bt112.2.2 true)))))) = some r := H
    have A4 := Aside0.mk A40
    clear A40
    replace H := Option.bind_eq_some_iff.mp H
    obtain ⟨⟨t104, t105, t106⟩, A50, H⟩ := H
    replace H : ((laws_toIntS.f k l0).bind fun t109 => ((impl_GiveLongest.f k t109 a1).bind fun bt112 => ((laws_eqIntS.f k bt112.1 t104).bind fun t117 => (if t117 = true then (if bt112.2.1 = t105 then (laws_FnExactGiveLongest.j0 k l0 a1 t104 t105 t106 t109 bt112.1 bt112.2.1 bt112.2.2 (bt112.2.2 != t106)) else (laws_FnExactGiveLongest.j0 k l0 a1 t104 t105 t106 t109 bt112.1 bt112.2.1 bt112.2.2 true)) else (laws_FnExactGiveLongest.j0 k l0 a1 t104 t105 t106 t109 bt112.1 bt112.2.1 bt112.2.2 true))))) = some r := H
    have A5 := Aside0.mk A50
    clear A50
    replace H := Option.bind_eq_some_iff.mp H
    obtain ⟨t109, A60, H⟩ := H
    replace H : ((impl_GiveLongest.f k t109 a1).bind fun bt112 => ((laws_eqIntS.f k bt112.1 t104).bind fun t117 => (if t117 = true then (if bt112.2.1 = t105 then (laws_FnExactGiveLongest.j0 k l0 a1 t104 t105 t106 t109 bt112.1 bt112.2.1 bt112.2.2 (bt112.2.2 != t106)) else (laws_FnExactGiveLongest.j0 k l0 a1 t104 t105 t106 t109 bt112.1 bt112.2.1 bt112.2.2 true)) else (laws_FnExactGiveLongest.j0 k l0 a1 t104 t105 t106 t109 bt112.1 bt112.2.1 bt112.2.2 true)))) = some r := H
    have A6 := Aside0.mk A60
    clear A60
    replace H := Option.bind_eq_some_iff.mp H
    obtain ⟨⟨t112, t113, t114⟩, A70, H⟩ := H
    replace H : ((laws_eqIntS.f k t112 t104).bind fun t117 => (if t117 = true then (if t113 = t105 then (laws_FnExactGiveLongest.j0 k l0 a1 t104 t105 t106 t109 t112 t113 t114 (t114 != t106)) else (laws_FnExactGiveLongest.j0 k l0 a1 t104 t105 t106 t109 t112 t113 t114 true)) else (laws_FnExactGiveLongest.j0 k l0 a1 t104 t105 t106 t109 t112 t113 t114 true))) = some r := H
    have A7 := Aside0.mk A70
    clear A70
    have HC8 := Aside0.mk H
    clear H
    go_enter Try.func5, Try.ntmps5
    go_upto_region 6 with (first | ((with_reducible refine gate_callee (f := 7) rfl ?_); refine goesL_ (some 23) rfl rfl Try.func7 (by kernel_rfl) rfl #[.slice A0 l0.length c0] rfl (by (try simp only [List.map_toArray, List.map_cons, List.map_nil]); first | done | rfl | (simp only [List.length_drop, List.length_take]; rfl)) ?_; (with_reducible refine (laws_toIntS.calls k _ _ l0 t101 _ ?side1 ?side2 A4.out).mono ?_); (case side1 => repeat (first | exact HR0.out | (with_reducible refine Kd.C_alloc ?_ _) | (with_reducible refine Kd.C_drewN ?_ _) | (with_reducible refine Kd.C_drew ?_))); (case side2 => exact HC0.out); rintro e w9 ⟨v102, rfl, ho0, hb⟩; refine ⟨_, rfl, ?_⟩; have n0_ := Aside0.mk (Kd.R_lower ho0 (below_size (by repeat (first | (with_reducible first | exact HB.out | apply below_alloc | apply pw_below_drewN | apply below_drew1) | exact HB.out)))); have n1_ := Aside0.mk (below_step (by repeat (first | (with_reducible first | exact HB.out | apply below_alloc | apply pw_below_drewN | apply below_drew1) | exact HB.out)) hb); clear HB; have HO103 := n0_; have HB := n1_; clear n0_ n1_; (try clear hb); (try clear hb2); (try clear hk); (try clear hi); (try clear ho0); obtain ⟨Ao10, co10, eo10⟩ := Kd.R_slice HO103.out; subst eo10) | ((with_reducible refine gate_callee (f := 18) rfl ?_); refine goesL_ (some 25) rfl rfl Try.func18 (by kernel_rfl) rfl #[.slice Ao10 t101.length co10, .int .i64 a1] rfl (by (try simp only [List.map_toArray, List.map_cons, List.map_nil]); first | done | rfl | (simp only [List.length_drop, List.length_take]; rfl)) ?_; (with_reducible refine (spec_GiveLongest.calls k _ _ t101 a1 t104 t105 t106 _ ?side1 ?side2 A5.out).mono ?_); (case side1 => repeat (first | exact (Kd.R_reads' HO103.out).2.2 | (with_reducible refine Kd.C_alloc ?_ _) | (with_reducible refine Kd.C_drewN ?_ _) | (with_reducible refine Kd.C_drew ?_))); (case side2 => exact (Kd.R_reads' HO103.out).2.1); rintro e w11 ⟨v107, rfl, ho0, hb⟩; refine ⟨_, rfl, ?_⟩; have n0_ := Aside0.mk (Kd.R_elder' (by (with_reducible repeat (first | apply Kd.R_alloc | apply Kd.R_drewN | apply Kd.R_drew)); exact HO103.out) (Kd.R_base ho0) hb); have n1_ := Aside0.mk (Kd.R_lower (Kd.R_new' ho0 (Kd.R_lt (by (with_reducible repeat (first | apply Kd.R_alloc | apply Kd.R_drewN | apply Kd.R_drew)); exact HO103.out))) (below_size (by repeat (first | (with_reducible first | exact HB.out | apply below_alloc | apply pw_below_drewN | apply below_drew1) | exact HB.out)))); have n2_ := Aside0.mk (below_step (by repeat (first | (with_reducible first | exact HB.out | apply below_alloc | apply pw_below_drewN | apply below_drew1) | exact HB.out)) hb); clear HO103; clear HB; have HO103 := n0_; have HO108 := n1_; have HB := n2_; clear n0_ n1_ n2_; (try clear hb); (try clear hb2); (try clear hk); (try clear hi); (try clear ho0)) | ((with_reducible refine gate_callee (f := 7) rfl ?_); refine goesL_ (some 30) rfl rfl Try.func7 (by kernel_rfl) rfl #[.slice A0 l0.length c0] rfl (by (try simp only [List.map_toArray, List.map_cons, List.map_nil]); first | done | rfl | (simp only [List.length_drop, List.length_take]; rfl)) ?_; (with_reducible refine (laws_toIntS.calls k _ _ l0 t109 _ ?side1 ?side2 A6.out).mono ?_); (case side1 => repeat (first | exact (Kd.C_below HR0.out HB.out) | (with_reducible refine Kd.C_alloc ?_ _) | (with_reducible refine Kd.C_drewN ?_ _) | (with_reducible refine Kd.C_drew ?_))); (case side2 => exact HC0.out); rintro e w12 ⟨v110, rfl, ho0, hb⟩; refine ⟨_, rfl, ?_⟩; have n0_ := Aside0.mk (Kd.R_elder' (by (with_reducible repeat (first | apply Kd.R_alloc | apply Kd.R_drewN | apply Kd.R_drew)); exact HO103.out) (Kd.R_base ho0) hb); have n1_ := Aside0.mk (Kd.R_elder' (by (with_reducible repeat (first | apply Kd.R_alloc | apply Kd.R_drewN | apply Kd.R_drew)); exact HO108.out) (Kd.R_base ho0) hb); have n2_ := Aside0.mk (Kd.R_lower (Kd.R_new' (Kd.R_new' ho0 (Kd.R_lt (by (with_reducible repeat (first | apply Kd.R_alloc | apply Kd.R_drewN | apply Kd.R_drew)); exact HO103.out))) (Kd.R_lt (by (with_reducible repeat (first | apply Kd.R_alloc | apply Kd.R_drewN | apply Kd.R_drew)); exact HO108.out))) (below_size (by repeat (first | (with_reducible first | exact HB.out | apply below_alloc | apply pw_below_drewN | apply below_drew1) | exact HB.out)))); have n3_ := Aside0.mk (below_step (by repeat (first | (with_reducible first | exact HB.out | apply below_alloc | apply pw_below_drewN | apply below_drew1) | exact HB.out)) hb); clear HO103; clear HO108; clear HB; have HO103 := n0_; have HO108 := n1_; have HO111 := n2_; have HB := n3_; clear n0_ n1_ n2_ n3_; (try clear hb); (try clear hb2); (try clear hk); (try clear hi); (try clear ho0); obtain ⟨Ao13, co13, eo13⟩ := Kd.R_slice HO111.out; subst eo13) | ((with_reducible refine gate_callee (f := 19) rfl ?_); refine goesL_ (some 34) rfl rfl Try.func19 (by kernel_rfl) rfl #[.slice Ao13 t109.length co13, .int .i64 a1] rfl (by (try simp only [List.map_toArray, List.map_cons, List.map_nil]); first | done | rfl | (simp only [List.length_drop, List.length_take]; rfl)) ?_; (with_reducible refine (impl_GiveLongest.calls k _ _ t109 a1 t112 t113 t114 _ ?side1 ?side2 A7.out).mono ?_); (case side1 => repeat (first | exact (Kd.R_reads' HO111.out).2.2 | (with_reducible refine Kd.C_alloc ?_ _) | (with_reducible refine Kd.C_drewN ?_ _) | (with_reducible refine Kd.C_drew ?_))); (case side2 => exact (Kd.R_reads' HO111.out).2.1); rintro e w14 ⟨v115, rfl, ho0, hb⟩; refine ⟨_, rfl, ?_⟩; have n0_ := Aside0.mk (Kd.R_elder' (by (with_reducible repeat (first | apply Kd.R_alloc | apply Kd.R_drewN | apply Kd.R_drew)); exact HO103.out) (Kd.R_base ho0) hb); have n1_ := Aside0.mk (Kd.R_elder' (by (with_reducible repeat (first | apply Kd.R_alloc | apply Kd.R_drewN | apply Kd.R_drew)); exact HO108.out) (Kd.R_base ho0) hb); have n2_ := Aside0.mk (Kd.R_elder' (by (with_reducible repeat (first | apply Kd.R_alloc | apply Kd.R_drewN | apply Kd.R_drew)); exact HO111.out) (Kd.R_base ho0) hb); have n3_ := Aside0.mk (Kd.R_lower (Kd.R_new' (Kd.R_new' (Kd.R_new' ho0 (Kd.R_lt (by (with_reducible repeat (first | apply Kd.R_alloc | apply Kd.R_drewN | apply Kd.R_drew)); exact HO103.out))) (Kd.R_lt (by (with_reducible repeat (first | apply Kd.R_alloc | apply Kd.R_drewN | apply Kd.R_drew)); exact HO108.out))) (Kd.R_lt (by (with_reducible repeat (first | apply Kd.R_alloc | apply Kd.R_drewN | apply Kd.R_drew)); exact HO111.out))) (below_size (by repeat (first | (with_reducible first | exact HB.out | apply below_alloc | apply pw_below_drewN | apply below_drew1) | exact HB.out)))); have n4_ := Aside0.mk (below_step (by repeat (first | (with_reducible first | exact HB.out | apply below_alloc | apply pw_below_drewN | apply below_drew1) | exact HB.out)) hb); clear HO103; clear HO108; clear HO111; clear HB; have HO103 := n0_; have HO108 := n1_; have HO111 := n2_; have HO116 := n3_; have HB := n4_; clear n0_ n1_ n2_ n3_ n4_; (try clear hb); (try clear hb2); (try clear hk); (try clear hi); (try clear ho0)))
    (try simp only [Act.put, List.setIfInBounds_toArray, List.set_cons_zero, List.set_cons_succ])
    go_cut [51] (fun v51 wc => ∃ (kq : Nat) (x51_7 : Bool), v51 = .bool x51_7 ∧ Aside0 (laws_FnExactGiveLongest.j0 kq l0 a1 t104 t105 t106 t109 t112 t113 t114 x51_7 = some r) ∧ Aside0 (kq ≤ k) ∧ Aside0 (Kd.R (Kd.int .i64) 3 wc w.heap.size (fun k_ => some k_ ≠ ((.slice Ao13 t109.length co13) : Value).ownBlock ∧ some k_ ≠ (v115 : Value).ownBlock) v107 t104) ∧ Aside0 (Kd.R (Kd.int .i64) 3 wc w.heap.size (fun k_ => some k_ ≠ (v107 : Value).ownBlock ∧ some k_ ≠ (v115 : Value).ownBlock) (.slice Ao13 t109.length co13) t109) ∧ Aside0 (Kd.R (Kd.int .i64) 3 wc w.heap.size (fun k_ => some k_ ≠ (v107 : Value).ownBlock ∧ some k_ ≠ ((.slice Ao13 t109.length co13) : Value).ownBlock) v115 t112) ∧ Aside0 (Below w.heap.size w wc))
    case first =>
      have H := HC8.out
      clear HC8
      replace H := Option.bind_eq_some_iff.mp H
      obtain ⟨t117, A150, H⟩ := H
      replace H : (if t117 = true then (if t113 = t105 then (laws_FnExactGiveLongest.j0 k l0 a1 t104 t105 t106 t109 t112 t113 t114 (t114 != t106)) else (laws_FnExactGiveLongest.j0 k l0 a1 t104 t105 t106 t109 t112 t113 t114 true)) else (laws_FnExactGiveLongest.j0 k l0 a1 t104 t105 t106 t109 t112 t113 t114 true)) = some r := H
      have A15 := Aside0.mk A150
      clear A150
      by_cases c16 : t117 = true
      · subst c16
        have H1 : (if t113 = t105 then (laws_FnExactGiveLongest.j0 k l0 a1 t104 t105 t106 t109 t112 t113 t114 (t114 != t106)) else (laws_FnExactGiveLongest.j0 k l0 a1 t104 t105 t106 t109 t112 t113 t114 true)) = some r := by rw [if_pos rfl] at H; exact H
        clear H
        have H := H1
        clear H1
        by_cases c17 : t113 = t105
        · rw [if_pos c17] at H
          have c17b0 : (t113 == t105) = true := beq_iff_eq.mpr c17
          have c17b1 : (t113 != t105) = false := bne_eq_false_iff_eq.mpr c17
          clear c17
          (first | rw [c17b0] | (simp only [i64_w, i32_w]; rw [c17b0]) | skip)
          have H' := Aside0.mk H
          clear H
          obtain ⟨Ao18, co18, eo18⟩ := Kd.R_slice HO116.out
          subst eo18
          obtain ⟨Ao19, co19, eo19⟩ := Kd.R_slice HO108.out
          subst eo19
          go_wp2_with (first | ((with_reducible refine gate_callee (f := 9) rfl ?_); refine goesL_ (some 40) rfl rfl Try.func9 (by kernel_rfl) rfl #[.slice Ao18 t112.length co18, .slice Ao19 t104.length co19] rfl (by (try simp only [List.map_toArray, List.map_cons, List.map_nil]); first | done | rfl | (simp only [List.length_drop, List.length_take]; rfl)) ?_; (with_reducible refine (laws_eqIntS.calls k _ _ t112 _ _ t104 true _ ?side1 ?side2 ?side3 ?side4 A15.out).mono ?_); (case side1 => repeat (first | exact (Kd.R_reads' HO116.out).2.2 | (with_reducible refine Kd.C_alloc ?_ _) | (with_reducible refine Kd.C_drewN ?_ _) | (with_reducible refine Kd.C_drew ?_))); (case side2 => exact (Kd.R_reads' HO116.out).2.1); (case side3 => repeat (first | exact (Kd.R_reads' HO108.out).2.2 | (with_reducible refine Kd.C_alloc ?_ _) | (with_reducible refine Kd.C_drewN ?_ _) | (with_reducible refine Kd.C_drew ?_))); (case side4 => exact (Kd.R_reads' HO108.out).2.1); rintro e w' ⟨rfl, ⟨nd, rfl⟩⟩; refine ⟨_, rfl, ?_⟩))
          go_meet
          case rel => exact ⟨_, ((t114 != t106)), (by first | rfl | (simp; done) | (simp [*]; done)), H', ⟨by first | omega | exact Nat.le_refl _⟩, ⟨by (with_reducible repeat (first | apply Kd.R_alloc | apply Kd.R_drewN | apply Kd.R_drew)); exact Kd.R_mono HO108.out (fun _ hk => ⟨hk.1.2, hk.2⟩)⟩, ⟨by (with_reducible repeat (first | apply Kd.R_alloc | apply Kd.R_drewN | apply Kd.R_drew)); exact Kd.R_mono HO111.out (fun _ hk => ⟨hk.1.2, hk.2⟩)⟩, ⟨by (with_reducible repeat (first | apply Kd.R_alloc | apply Kd.R_drewN | apply Kd.R_drew)); exact Kd.R_mono HO116.out (fun _ hk => ⟨hk.1.2, hk.2⟩)⟩, ⟨by repeat (first | (with_reducible first | exact HB.out | apply below_alloc | apply pw_below_drewN | apply below_drew1) | exact HB.out)⟩⟩
        · rw [if_neg c17] at H
          have c17b0 : (t113 == t105) = false := beq_eq_false_iff_ne.mpr c17
          have c17b1 : (t113 != t105) = true := bne_iff_ne.mpr c17
          (first | rw [c17b0] | (simp only [i64_w, i32_w]; rw [c17b0]) | skip)
          have H' := Aside0.mk H
          clear H
          obtain ⟨Ao20, co20, eo20⟩ := Kd.R_slice HO116.out
          subst eo20
          obtain ⟨Ao21, co21, eo21⟩ := Kd.R_slice HO108.out
          subst eo21
          go_wp2_with (first | ((with_reducible refine gate_callee (f := 9) rfl ?_); refine goesL_ (some 40) rfl rfl Try.func9 (by kernel_rfl) rfl #[.slice Ao20 t112.length co20, .slice Ao21 t104.length co21] rfl (by (try simp only [List.map_toArray, List.map_cons, List.map_nil]); first | done | rfl | (simp only [List.length_drop, List.length_take]; rfl)) ?_; (with_reducible refine (laws_eqIntS.calls k _ _ t112 _ _ t104 true _ ?side1 ?side2 ?side3 ?side4 A15.out).mono ?_); (case side1 => repeat (first | exact (Kd.R_reads' HO116.out).2.2 | (with_reducible refine Kd.C_alloc ?_ _) | (with_reducible refine Kd.C_drewN ?_ _) | (with_reducible refine Kd.C_drew ?_))); (case side2 => exact (Kd.R_reads' HO116.out).2.1); (case side3 => repeat (first | exact (Kd.R_reads' HO108.out).2.2 | (with_reducible refine Kd.C_alloc ?_ _) | (with_reducible refine Kd.C_drewN ?_ _) | (with_reducible refine Kd.C_drew ?_))); (case side4 => exact (Kd.R_reads' HO108.out).2.1); rintro e w' ⟨rfl, ⟨nd, rfl⟩⟩; refine ⟨_, rfl, ?_⟩))
          go_meet
          case rel => exact ⟨_, (true), (by first | rfl | (simp; done) | (simp [*]; done)), H', ⟨by first | omega | exact Nat.le_refl _⟩, ⟨by (with_reducible repeat (first | apply Kd.R_alloc | apply Kd.R_drewN | apply Kd.R_drew)); exact Kd.R_mono HO108.out (fun _ hk => ⟨hk.1.2, hk.2⟩)⟩, ⟨by (with_reducible repeat (first | apply Kd.R_alloc | apply Kd.R_drewN | apply Kd.R_drew)); exact Kd.R_mono HO111.out (fun _ hk => ⟨hk.1.2, hk.2⟩)⟩, ⟨by (with_reducible repeat (first | apply Kd.R_alloc | apply Kd.R_drewN | apply Kd.R_drew)); exact Kd.R_mono HO116.out (fun _ hk => ⟨hk.1.2, hk.2⟩)⟩, ⟨by repeat (first | (with_reducible first | exact HB.out | apply below_alloc | apply pw_below_drewN | apply below_drew1) | exact HB.out)⟩⟩
      · replace c16 := Bool.eq_false_iff.mpr c16
        subst c16
        have H1 : (laws_FnExactGiveLongest.j0 k l0 a1 t104 t105 t106 t109 t112 t113 t114 true) = some r := by rw [if_neg (show ¬ (false = true) by decide)] at H; exact H
        clear H
        have H := H1
        clear H1
        have H' := Aside0.mk H
        clear H
        obtain ⟨Ao22, co22, eo22⟩ := Kd.R_slice HO116.out
        subst eo22
        obtain ⟨Ao23, co23, eo23⟩ := Kd.R_slice HO108.out
        subst eo23
        go_wp2_with (first | ((with_reducible refine gate_callee (f := 9) rfl ?_); refine goesL_ (some 40) rfl rfl Try.func9 (by kernel_rfl) rfl #[.slice Ao22 t112.length co22, .slice Ao23 t104.length co23] rfl (by (try simp only [List.map_toArray, List.map_cons, List.map_nil]); first | done | rfl | (simp only [List.length_drop, List.length_take]; rfl)) ?_; (with_reducible refine (laws_eqIntS.calls k _ _ t112 _ _ t104 false _ ?side1 ?side2 ?side3 ?side4 A15.out).mono ?_); (case side1 => repeat (first | exact (Kd.R_reads' HO116.out).2.2 | (with_reducible refine Kd.C_alloc ?_ _) | (with_reducible refine Kd.C_drewN ?_ _) | (with_reducible refine Kd.C_drew ?_))); (case side2 => exact (Kd.R_reads' HO116.out).2.1); (case side3 => repeat (first | exact (Kd.R_reads' HO108.out).2.2 | (with_reducible refine Kd.C_alloc ?_ _) | (with_reducible refine Kd.C_drewN ?_ _) | (with_reducible refine Kd.C_drew ?_))); (case side4 => exact (Kd.R_reads' HO108.out).2.1); rintro e w' ⟨rfl, ⟨nd, rfl⟩⟩; refine ⟨_, rfl, ?_⟩))
        go_meet
        case rel => exact ⟨_, (true), (by first | rfl | (simp; done) | (simp [*]; done)), H', ⟨by first | omega | exact Nat.le_refl _⟩, ⟨by (with_reducible repeat (first | apply Kd.R_alloc | apply Kd.R_drewN | apply Kd.R_drew)); exact Kd.R_mono HO108.out (fun _ hk => ⟨hk.1.2, hk.2⟩)⟩, ⟨by (with_reducible repeat (first | apply Kd.R_alloc | apply Kd.R_drewN | apply Kd.R_drew)); exact Kd.R_mono HO111.out (fun _ hk => ⟨hk.1.2, hk.2⟩)⟩, ⟨by (with_reducible repeat (first | apply Kd.R_alloc | apply Kd.R_drewN | apply Kd.R_drew)); exact Kd.R_mono HO116.out (fun _ hk => ⟨hk.1.2, hk.2⟩)⟩, ⟨by repeat (first | (with_reducible first | exact HB.out | apply below_alloc | apply pw_below_drewN | apply below_drew1) | exact HB.out)⟩⟩
    case rest =>
      clear HC8
      try clear c1
      try clear p2
      try clear c3
      try clear c3b0
      try clear c3b1
      try clear c5
      try clear c7
      try clear c9
      try clear c16
      try clear c17
      try clear c17b0
      try clear c17b1
      try clear c18
      try clear c19
      obtain ⟨kq, x51_7, rfl, HA, HJ7, HO_5, HO_8, HO_9, HB⟩ := hcut
      cases kq with
      | zero => exact absurd HA.out (by simp [laws_FnExactGiveLongest.j0])
      | succ kj7 =>
        have H := HA.out
        clear HA
        simp only [laws_FnExactGiveLongest.j0] at H
        by_cases c24 : x51_7 = true
        · subst c24
          have H1 : (some false) = some r := by rw [if_pos rfl] at H; exact H
          clear H
          have H := H1
          clear H1
          obtain rfl := Option.some.inj H
          go_wp2
          go_ret
          exact ⟨by first | rfl | (simp [errW_none, errW_some] <;> rfl) | (simp [*, errW_none, errW_some] <;> rfl), by repeat (first | (with_reducible first | exact HB.out | apply below_alloc | apply pw_below_drewN | apply below_drew1) | exact HB.out)⟩
        · replace c24 := Bool.eq_false_iff.mpr c24
          subst c24
          have H1 : ((laws_toIntS.f kj7 l0).bind fun t118 => ((laws_eqIntS.f kj7 t109 t118).bind fun t121 => (if t121 = true then ((laws_markIntS.f kj7 t109 1).bind fun bt122 => (if bt122.1 < 0 then (laws_FnExactGiveLongest.j1 kj7 l0 a1 t104 t105 t106 t112 true) else ((laws_eqIntS.f kj7 t112 t104).bind fun t124 => (if t124 = true then (if t113 = t105 then (laws_FnExactGiveLongest.j1 kj7 l0 a1 t104 t105 t106 t112 (t114 != t106)) else (laws_FnExactGiveLongest.j1 kj7 l0 a1 t104 t105 t106 t112 true)) else (laws_FnExactGiveLongest.j1 kj7 l0 a1 t104 t105 t106 t112 true))))) else (some false)))) = some r := by rw [if_neg (show ¬ (false = true) by decide)] at H; exact H
          clear H
          have H := H1
          clear H1
          replace H := Option.bind_eq_some_iff.mp H
          obtain ⟨t118, A250, H⟩ := H
          replace H : ((laws_eqIntS.f kj7 t109 t118).bind fun t121 => (if t121 = true then ((laws_markIntS.f kj7 t109 1).bind fun bt122 => (if bt122.1 < 0 then (laws_FnExactGiveLongest.j1 kj7 l0 a1 t104 t105 t106 t112 true) else ((laws_eqIntS.f kj7 t112 t104).bind fun t124 => (if t124 = true then (if t113 = t105 then (laws_FnExactGiveLongest.j1 kj7 l0 a1 t104 t105 t106 t112 (t114 != t106)) else (laws_FnExactGiveLongest.j1 kj7 l0 a1 t104 t105 t106 t112 true)) else (laws_FnExactGiveLongest.j1 kj7 l0 a1 t104 t105 t106 t112 true))))) else (some false))) = some r := H
          have A25 := Aside0.mk A250
          clear A250
          replace H := Option.bind_eq_some_iff.mp H
          obtain ⟨t121, A260, H⟩ := H
          replace H : (if t121 = true then ((laws_markIntS.f kj7 t109 1).bind fun bt122 => (if bt122.1 < 0 then (laws_FnExactGiveLongest.j1 kj7 l0 a1 t104 t105 t106 t112 true) else ((laws_eqIntS.f kj7 t112 t104).bind fun t124 => (if t124 = true then (if t113 = t105 then (laws_FnExactGiveLongest.j1 kj7 l0 a1 t104 t105 t106 t112 (t114 != t106)) else (laws_FnExactGiveLongest.j1 kj7 l0 a1 t104 t105 t106 t112 true)) else (laws_FnExactGiveLongest.j1 kj7 l0 a1 t104 t105 t106 t112 true))))) else (some false)) = some r := H
          have A26 := Aside0.mk A260
          clear A260
          by_cases c27 : t121 = true
          · subst c27
            have H1 : ((laws_markIntS.f kj7 t109 1).bind fun bt122 => (if bt122.1 < 0 then (laws_FnExactGiveLongest.j1 kj7 l0 a1 t104 t105 t106 t112 true) else ((laws_eqIntS.f kj7 t112 t104).bind fun t124 => (if t124 = true then (if t113 = t105 then (laws_FnExactGiveLongest.j1 kj7 l0 a1 t104 t105 t106 t112 (t114 != t106)) else (laws_FnExactGiveLongest.j1 kj7 l0 a1 t104 t105 t106 t112 true)) else (laws_FnExactGiveLongest.j1 kj7 l0 a1 t104 t105 t106 t112 true))))) = some r := by rw [if_pos rfl] at H; exact H
            clear H
            have H := H1
            clear H1
            replace H := Option.bind_eq_some_iff.mp H
            obtain ⟨⟨t122, t123⟩, A280, H⟩ := H
            replace H : (if t122 < 0 then (laws_FnExactGiveLongest.j1 kj7 l0 a1 t104 t105 t106 t112 true) else ((laws_eqIntS.f kj7 t112 t104).bind fun t124 => (if t124 = true then (if t113 = t105 then (laws_FnExactGiveLongest.j1 kj7 l0 a1 t104 t105 t106 t112 (t114 != t106)) else (laws_FnExactGiveLongest.j1 kj7 l0 a1 t104 t105 t106 t112 true)) else (laws_FnExactGiveLongest.j1 kj7 l0 a1 t104 t105 t106 t112 true)))) = some r := H
            have A28 := Aside0.mk A280
            clear A280
            have HC29 := Aside0.mk H
            clear H
            go_upto_region 12 with (first | ((with_reducible refine gate_callee (f := 7) rfl ?_); refine goesL_ (some 54) rfl rfl Try.func7 (by kernel_rfl) rfl #[.slice A0 l0.length c0] rfl (by (try simp only [List.map_toArray, List.map_cons, List.map_nil]); first | done | rfl | (simp only [List.length_drop, List.length_take]; rfl)) ?_; (with_reducible refine (laws_toIntS.calls kj7 _ _ l0 t118 _ ?side1 ?side2 A25.out).mono ?_); (case side1 => repeat (first | exact (Kd.C_below HR0.out HB.out) | (with_reducible refine Kd.C_alloc ?_ _) | (with_reducible refine Kd.C_drewN ?_ _) | (with_reducible refine Kd.C_drew ?_))); (case side2 => exact HC0.out); rintro e w30 ⟨v119, rfl, ho0, hb⟩; refine ⟨_, rfl, ?_⟩; have n0_ := Aside0.mk (Kd.R_elder' (by (with_reducible repeat (first | apply Kd.R_alloc | apply Kd.R_drewN | apply Kd.R_drew)); exact HO_5.out) (Kd.R_base ho0) hb); have n1_ := Aside0.mk (Kd.R_elder' (by (with_reducible repeat (first | apply Kd.R_alloc | apply Kd.R_drewN | apply Kd.R_drew)); exact HO_8.out) (Kd.R_base ho0) hb); have n2_ := Aside0.mk (Kd.R_elder' (by (with_reducible repeat (first | apply Kd.R_alloc | apply Kd.R_drewN | apply Kd.R_drew)); exact HO_9.out) (Kd.R_base ho0) hb); have n3_ := Aside0.mk (Kd.R_lower (Kd.R_new' (Kd.R_new' (Kd.R_new' ho0 (Kd.R_lt (by (with_reducible repeat (first | apply Kd.R_alloc | apply Kd.R_drewN | apply Kd.R_drew)); exact HO_5.out))) (Kd.R_lt (by (with_reducible repeat (first | apply Kd.R_alloc | apply Kd.R_drewN | apply Kd.R_drew)); exact HO_8.out))) (Kd.R_lt (by (with_reducible repeat (first | apply Kd.R_alloc | apply Kd.R_drewN | apply Kd.R_drew)); exact HO_9.out))) (below_size (by repeat (first | (with_reducible first | exact HB.out | apply below_alloc | apply pw_below_drewN | apply below_drew1) | exact HB.out)))); have n4_ := Aside0.mk (below_step (by repeat (first | (with_reducible first | exact HB.out | apply below_alloc | apply pw_below_drewN | apply below_drew1) | exact HB.out)) hb); clear HO_5; clear HO_8; clear HO_9; clear HB; have HO_5 := n0_; have HO_8 := n1_; have HO_9 := n2_; have HO120 := n3_; have HB := n4_; clear n0_ n1_ n2_ n3_ n4_; (try clear hb); (try clear hb2); (try clear hk); (try clear hi); (try clear ho0); obtain ⟨Ao31, co31, eo31⟩ := Kd.R_slice HO120.out; subst eo31) | ((with_reducible refine gate_callee (f := 9) rfl ?_); refine goesL_ (some 55) rfl rfl Try.func9 (by kernel_rfl) rfl #[.slice Ao13 t109.length co13, .slice Ao31 t118.length co31] rfl (by (try simp only [List.map_toArray, List.map_cons, List.map_nil]); first | done | rfl | (simp only [List.length_drop, List.length_take]; rfl)) ?_; (with_reducible refine (laws_eqIntS.calls kj7 _ _ t109 _ _ t118 true _ ?side1 ?side2 ?side3 ?side4 A26.out).mono ?_); (case side1 => repeat (first | exact (Kd.R_reads' HO_8.out).2.2 | (with_reducible refine Kd.C_alloc ?_ _) | (with_reducible refine Kd.C_drewN ?_ _) | (with_reducible refine Kd.C_drew ?_))); (case side2 => exact (Kd.R_reads' HO_8.out).2.1); (case side3 => repeat (first | exact (Kd.R_reads' HO120.out).2.2 | (with_reducible refine Kd.C_alloc ?_ _) | (with_reducible refine Kd.C_drewN ?_ _) | (with_reducible refine Kd.C_drew ?_))); (case side4 => exact (Kd.R_reads' HO120.out).2.1); rintro e w' ⟨rfl, ⟨nd, rfl⟩⟩; refine ⟨_, rfl, ?_⟩) | ((with_reducible refine gate_callee (f := 16) rfl ?_); refine goesL_ (some 59) rfl rfl Try.func16 (by kernel_rfl) rfl #[.slice Ao13 t109.length co13, .int .i64 1] rfl (by (try simp only [List.map_toArray, List.map_cons, List.map_nil]); first | done | rfl | (simp only [List.length_drop, List.length_take]; rfl)) ?_; (with_reducible refine (laws_markIntS.calls kj7 (fun k_ => some k_ = (.slice Ao13 t109.length co13 : Value).ownBlock) (.slice Ao13 t109.length co13) t109 1 t122 t123 w _ ?side1 ?side2 A28.out).mono ?_); (case side1 => repeat (first | (with_reducible first | exact HB.out | apply below_alloc | apply pw_below_drewN | apply below_drew1) | exact HB.out)); (case side2 => exact Kd.R_tight rfl HO_8.out); rintro e w32 ⟨rfl, hy0, hb, hkp⟩; refine ⟨_, rfl, ?_⟩; have n0_ := Aside0.mk (Kd.R_mono (ok' := fun k_ => some k_ ≠ (.slice Ao13 t109.length co13 : Value).ownBlock ∧ some k_ ≠ (v115 : Value).ownBlock ∧ some k_ ≠ (.slice Ao31 t118.length co31 : Value).ownBlock) (Kd.R_keptB (HO_5.out) hkp (fun k_ hk_ hs_ => (hk_.1.1) hs_)) (fun k_ hk_ => ⟨hk_.1.1.1, hk_.1.1.2, hk_.1.2⟩)); have n1_ := Aside0.mk (Kd.R_reok rfl hy0 (fun k_ e_ => HO_8.out.1 k_ e_)); have n2_ := Aside0.mk (Kd.R_mono (ok' := fun k_ => some k_ ≠ (v107 : Value).ownBlock ∧ some k_ ≠ (.slice Ao13 t109.length co13 : Value).ownBlock ∧ some k_ ≠ (.slice Ao31 t118.length co31 : Value).ownBlock) (Kd.R_keptB (HO_9.out) hkp (fun k_ hk_ hs_ => (hk_.1.2) hs_)) (fun k_ hk_ => ⟨hk_.1.1.1, hk_.1.1.2, hk_.1.2⟩)); have n3_ := Aside0.mk (Kd.R_mono (ok' := fun k_ => some k_ ≠ (v107 : Value).ownBlock ∧ some k_ ≠ (.slice Ao13 t109.length co13 : Value).ownBlock ∧ some k_ ≠ (v115 : Value).ownBlock) (Kd.R_keptB (HO120.out) hkp (fun k_ hk_ hs_ => (hk_.1.2) hs_)) (fun k_ hk_ => ⟨hk_.1.1.1.2, hk_.1.1.2, hk_.1.2⟩)); have n4_ := Aside0.mk (hb); clear HO_5; clear HO_8; clear HO_9; clear HO120; clear HB; have HO_5 := n0_; have HO_8 := n1_; have HO_9 := n2_; have HO120 := n3_; have HB := n4_; clear n0_ n1_ n2_ n3_ n4_; (try clear hb); (try clear hkp); (try clear hy0)))
            (try simp only [Act.put, List.setIfInBounds_toArray, List.set_cons_zero, List.set_cons_succ])
            go_cut [77] (fun v77 wc => ∃ (kq : Nat) (x77_28 : Bool), v77 = .bool x77_28 ∧ Aside0 (laws_FnExactGiveLongest.j1 kq l0 a1 t104 t105 t106 t112 x77_28 = some r) ∧ Aside0 (kq ≤ kj7) ∧ Aside0 (Kd.R (Kd.int .i64) 3 wc w.heap.size (fun k_ => some k_ ≠ (v115 : Value).ownBlock) v107 t104) ∧ Aside0 (Kd.R (Kd.int .i64) 3 wc w.heap.size (fun k_ => some k_ ≠ (v107 : Value).ownBlock) v115 t112) ∧ Aside0 (Below w.heap.size w wc))
            case first =>
              have H := HC29.out
              clear HC29
              by_cases c33 : t122 < 0
              · rw [if_pos c33] at H
                have c33b0 : decide (t122 < 0) = true := decide_eq_true c33
                clear c33
                (first | rw [c33b0] | (simp only [i64_w, i32_w]; rw [c33b0]) | skip)
                have H' := Aside0.mk H
                clear H
                go_wp2
                go_meet
                case rel => exact ⟨_, (true), (by first | rfl | (simp; done) | (simp [*]; done)), H', ⟨by have := HJ7.out; first | omega | exact Nat.le_refl _⟩, ⟨by (with_reducible repeat (first | apply Kd.R_alloc | apply Kd.R_drewN | apply Kd.R_drew)); exact Kd.R_mono HO_5.out (fun _ hk => hk.2.1)⟩, ⟨by (with_reducible repeat (first | apply Kd.R_alloc | apply Kd.R_drewN | apply Kd.R_drew)); exact Kd.R_mono HO_9.out (fun _ hk => hk.1)⟩, ⟨by repeat (first | (with_reducible first | exact HB.out | apply below_alloc | apply pw_below_drewN | apply below_drew1) | exact HB.out)⟩⟩
              · rw [if_neg c33] at H
                have c33b0 : decide (t122 < 0) = false := decide_eq_false c33
                clear c33
                (first | rw [c33b0] | (simp only [i64_w, i32_w]; rw [c33b0]) | skip)
                replace H := Option.bind_eq_some_iff.mp H
                obtain ⟨t124, A340, H⟩ := H
                replace H : (if t124 = true then (if t113 = t105 then (laws_FnExactGiveLongest.j1 kj7 l0 a1 t104 t105 t106 t112 (t114 != t106)) else (laws_FnExactGiveLongest.j1 kj7 l0 a1 t104 t105 t106 t112 true)) else (laws_FnExactGiveLongest.j1 kj7 l0 a1 t104 t105 t106 t112 true)) = some r := H
                have A34 := Aside0.mk A340
                clear A340
                by_cases c35 : t124 = true
                · subst c35
                  have H1 : (if t113 = t105 then (laws_FnExactGiveLongest.j1 kj7 l0 a1 t104 t105 t106 t112 (t114 != t106)) else (laws_FnExactGiveLongest.j1 kj7 l0 a1 t104 t105 t106 t112 true)) = some r := by rw [if_pos rfl] at H; exact H
                  clear H
                  have H := H1
                  clear H1
                  by_cases c36 : t113 = t105
                  · rw [if_pos c36] at H
                    have c36b0 : (t113 == t105) = true := beq_iff_eq.mpr c36
                    have c36b1 : (t113 != t105) = false := bne_eq_false_iff_eq.mpr c36
                    clear c36
                    have H' := Aside0.mk H
                    clear H
                    obtain ⟨Ao37, co37, eo37⟩ := Kd.R_slice HO_9.out
                    subst eo37
                    obtain ⟨Ao38, co38, eo38⟩ := Kd.R_slice HO_5.out
                    subst eo38
                    go_wp2_with (first | (go_at_call 9; (with_reducible refine (laws_eqIntS.calls kj7 _ _ t112 _ _ t104 true _ ?side1 ?side2 ?side3 ?side4 A34.out).mono ?_); (case side1 => repeat (first | exact (Kd.R_reads' HO_9.out).2.2 | (with_reducible refine Kd.C_alloc ?_ _) | (with_reducible refine Kd.C_drewN ?_ _) | (with_reducible refine Kd.C_drew ?_))); (case side2 => exact (Kd.R_reads' HO_9.out).2.1); (case side3 => repeat (first | exact (Kd.R_reads' HO_5.out).2.2 | (with_reducible refine Kd.C_alloc ?_ _) | (with_reducible refine Kd.C_drewN ?_ _) | (with_reducible refine Kd.C_drew ?_))); (case side4 => exact (Kd.R_reads' HO_5.out).2.1); rintro e w' ⟨rfl, ⟨nd, rfl⟩⟩))
                    go_meet
                    case rel => exact ⟨_, ((t114 != t106)), (by first | rfl | (simp; done) | (simp [*]; done)), H', ⟨by have := HJ7.out; first | omega | exact Nat.le_refl _⟩, ⟨by (with_reducible repeat (first | apply Kd.R_alloc | apply Kd.R_drewN | apply Kd.R_drew)); exact Kd.R_mono HO_5.out (fun _ hk => hk.2.1)⟩, ⟨by (with_reducible repeat (first | apply Kd.R_alloc | apply Kd.R_drewN | apply Kd.R_drew)); exact Kd.R_mono HO_9.out (fun _ hk => hk.1)⟩, ⟨by repeat (first | (with_reducible first | exact HB.out | apply below_alloc | apply pw_below_drewN | apply below_drew1) | exact HB.out)⟩⟩
                  · rw [if_neg c36] at H
                    have c36b0 : (t113 == t105) = false := beq_eq_false_iff_ne.mpr c36
                    have c36b1 : (t113 != t105) = true := bne_iff_ne.mpr c36
                    have H' := Aside0.mk H
                    clear H
                    obtain ⟨Ao39, co39, eo39⟩ := Kd.R_slice HO_9.out
                    subst eo39
                    obtain ⟨Ao40, co40, eo40⟩ := Kd.R_slice HO_5.out
                    subst eo40
                    go_wp2_with (first | (go_at_call 9; (with_reducible refine (laws_eqIntS.calls kj7 _ _ t112 _ _ t104 true _ ?side1 ?side2 ?side3 ?side4 A34.out).mono ?_); (case side1 => repeat (first | exact (Kd.R_reads' HO_9.out).2.2 | (with_reducible refine Kd.C_alloc ?_ _) | (with_reducible refine Kd.C_drewN ?_ _) | (with_reducible refine Kd.C_drew ?_))); (case side2 => exact (Kd.R_reads' HO_9.out).2.1); (case side3 => repeat (first | exact (Kd.R_reads' HO_5.out).2.2 | (with_reducible refine Kd.C_alloc ?_ _) | (with_reducible refine Kd.C_drewN ?_ _) | (with_reducible refine Kd.C_drew ?_))); (case side4 => exact (Kd.R_reads' HO_5.out).2.1); rintro e w' ⟨rfl, ⟨nd, rfl⟩⟩))
                    go_meet
                    case rel => exact ⟨_, (true), (by first | rfl | (simp; done) | (simp [*]; done)), H', ⟨by have := HJ7.out; first | omega | exact Nat.le_refl _⟩, ⟨by (with_reducible repeat (first | apply Kd.R_alloc | apply Kd.R_drewN | apply Kd.R_drew)); exact Kd.R_mono HO_5.out (fun _ hk => hk.2.1)⟩, ⟨by (with_reducible repeat (first | apply Kd.R_alloc | apply Kd.R_drewN | apply Kd.R_drew)); exact Kd.R_mono HO_9.out (fun _ hk => hk.1)⟩, ⟨by repeat (first | (with_reducible first | exact HB.out | apply below_alloc | apply pw_below_drewN | apply below_drew1) | exact HB.out)⟩⟩
                · replace c35 := Bool.eq_false_iff.mpr c35
                  subst c35
                  have H1 : (laws_FnExactGiveLongest.j1 kj7 l0 a1 t104 t105 t106 t112 true) = some r := by rw [if_neg (show ¬ (false = true) by decide)] at H; exact H
                  clear H
                  have H := H1
                  clear H1
                  have H' := Aside0.mk H
                  clear H
                  obtain ⟨Ao41, co41, eo41⟩ := Kd.R_slice HO_9.out
                  subst eo41
                  obtain ⟨Ao42, co42, eo42⟩ := Kd.R_slice HO_5.out
                  subst eo42
                  go_wp2_with (first | (go_at_call 9; (with_reducible refine (laws_eqIntS.calls kj7 _ _ t112 _ _ t104 false _ ?side1 ?side2 ?side3 ?side4 A34.out).mono ?_); (case side1 => repeat (first | exact (Kd.R_reads' HO_9.out).2.2 | (with_reducible refine Kd.C_alloc ?_ _) | (with_reducible refine Kd.C_drewN ?_ _) | (with_reducible refine Kd.C_drew ?_))); (case side2 => exact (Kd.R_reads' HO_9.out).2.1); (case side3 => repeat (first | exact (Kd.R_reads' HO_5.out).2.2 | (with_reducible refine Kd.C_alloc ?_ _) | (with_reducible refine Kd.C_drewN ?_ _) | (with_reducible refine Kd.C_drew ?_))); (case side4 => exact (Kd.R_reads' HO_5.out).2.1); rintro e w' ⟨rfl, ⟨nd, rfl⟩⟩))
                  go_meet
                  case rel => exact ⟨_, (true), (by first | rfl | (simp; done) | (simp [*]; done)), H', ⟨by have := HJ7.out; first | omega | exact Nat.le_refl _⟩, ⟨by (with_reducible repeat (first | apply Kd.R_alloc | apply Kd.R_drewN | apply Kd.R_drew)); exact Kd.R_mono HO_5.out (fun _ hk => hk.2.1)⟩, ⟨by (with_reducible repeat (first | apply Kd.R_alloc | apply Kd.R_drewN | apply Kd.R_drew)); exact Kd.R_mono HO_9.out (fun _ hk => hk.1)⟩, ⟨by repeat (first | (with_reducible first | exact HB.out | apply below_alloc | apply pw_below_drewN | apply below_drew1) | exact HB.out)⟩⟩
            case rest =>
              clear HC29
              try clear c1
              try clear c2
              try clear p2
              try clear c3
              try clear c3b0
              try clear c3b1
              try clear c5
              try clear c7
              try clear c9
              try clear c16
              try clear c17
              try clear c17b0
              try clear c17b1
              try clear c18
              try clear c19
              try clear c24
              try clear c27
              try clear c33
              try clear c33b0
              try clear c35
              try clear c36
              try clear c36b0
              try clear c36b1
              try clear p2
              obtain ⟨kq, x77_28, rfl, HA, HJ28, HO_5, HO_9, HB⟩ := hcut
              cases kq with
              | zero => exact absurd HA.out (by simp [laws_FnExactGiveLongest.j1])
              | succ kj28 =>
                have H := HA.out
                clear HA
                simp only [laws_FnExactGiveLongest.j1] at H
                by_cases c43 : x77_28 = true
                · subst c43
                  have H1 : (some false) = some r := by rw [if_pos rfl] at H; exact H
                  clear H
                  have H := H1
                  clear H1
                  obtain rfl := Option.some.inj H
                  go_wp2
                  go_ret
                  exact ⟨by first | rfl | (simp [errW_none, errW_some] <;> rfl) | (simp [*, errW_none, errW_some] <;> rfl), by repeat (first | (with_reducible first | exact HB.out | apply below_alloc | apply pw_below_drewN | apply below_drew1) | exact HB.out)⟩
                · replace c43 := Bool.eq_false_iff.mpr c43
                  subst c43
                  have H1 : ((laws_markIntS.f kj28 t112 1).bind fun bt125 => ((laws_heldIntS.f kj28 bt125.2 1).bind fun t127 => (if t127 < 0 then (some false) else (if t127 = bt125.1 then ((laws_toIntS.f kj28 l0).bind fun t128 => ((impl_GiveLongest.f kj28 t128 a1).bind fun bt131 => ((laws_eqIntS.f kj28 bt131.1 t104).bind fun t136 => (if t136 = true then (if bt131.2.1 = t105 then (laws_FnExactGiveLongest.j2 kj28 bt125.2 bt125.1 (bt131.2.2 != t106)) else (laws_FnExactGiveLongest.j2 kj28 bt125.2 bt125.1 true)) else (laws_FnExactGiveLongest.j2 kj28 bt125.2 bt125.1 true))))) else (some false))))) = some r := by rw [if_neg (show ¬ (false = true) by decide)] at H; exact H
                  clear H
                  have H := H1
                  clear H1
                  replace H := Option.bind_eq_some_iff.mp H
                  obtain ⟨⟨t125, t126⟩, A440, H⟩ := H
                  replace H : ((laws_heldIntS.f kj28 t126 1).bind fun t127 => (if t127 < 0 then (some false) else (if t127 = t125 then ((laws_toIntS.f kj28 l0).bind fun t128 => ((impl_GiveLongest.f kj28 t128 a1).bind fun bt131 => ((laws_eqIntS.f kj28 bt131.1 t104).bind fun t136 => (if t136 = true then (if bt131.2.1 = t105 then (laws_FnExactGiveLongest.j2 kj28 t126 t125 (bt131.2.2 != t106)) else (laws_FnExactGiveLongest.j2 kj28 t126 t125 true)) else (laws_FnExactGiveLongest.j2 kj28 t126 t125 true))))) else (some false)))) = some r := H
                  have A44 := Aside0.mk A440
                  clear A440
                  replace H := Option.bind_eq_some_iff.mp H
                  obtain ⟨t127, A450, H⟩ := H
                  replace H : (if t127 < 0 then (some false) else (if t127 = t125 then ((laws_toIntS.f kj28 l0).bind fun t128 => ((impl_GiveLongest.f kj28 t128 a1).bind fun bt131 => ((laws_eqIntS.f kj28 bt131.1 t104).bind fun t136 => (if t136 = true then (if bt131.2.1 = t105 then (laws_FnExactGiveLongest.j2 kj28 t126 t125 (bt131.2.2 != t106)) else (laws_FnExactGiveLongest.j2 kj28 t126 t125 true)) else (laws_FnExactGiveLongest.j2 kj28 t126 t125 true))))) else (some false))) = some r := H
                  have A45 := Aside0.mk A450
                  clear A450
                  by_cases c46 : t127 < 0
                  · rw [if_pos c46] at H
                    have c46b0 : decide (t127 < 0) = true := decide_eq_true c46
                    clear c46
                    obtain rfl := Option.some.inj H
                    obtain ⟨Ao47, co47, eo47⟩ := Kd.R_slice HO_9.out
                    subst eo47
                    go_wp2_with (first | ((with_reducible refine gate_callee (f := 16) rfl ?_); refine goesL_ (some 80) rfl rfl Try.func16 (by kernel_rfl) rfl #[.slice Ao47 t112.length co47, .int .i64 1] rfl (by (try simp only [List.map_toArray, List.map_cons, List.map_nil]); first | done | rfl | (simp only [List.length_drop, List.length_take]; rfl)) ?_; (with_reducible refine (laws_markIntS.calls kj28 (fun k_ => some k_ = (.slice Ao47 t112.length co47 : Value).ownBlock) (.slice Ao47 t112.length co47) t112 1 t125 t126 w _ ?side1 ?side2 A44.out).mono ?_); (case side1 => repeat (first | (with_reducible first | exact HB.out | apply below_alloc | apply pw_below_drewN | apply below_drew1) | exact HB.out)); (case side2 => exact Kd.R_tight rfl HO_9.out); rintro e w48 ⟨rfl, hy0, hb, hkp⟩; refine ⟨_, rfl, ?_⟩; have n0_ := Aside0.mk (Kd.R_mono (ok' := fun k_ => some k_ ≠ (.slice Ao47 t112.length co47 : Value).ownBlock) (Kd.R_keptB (HO_5.out) hkp (fun k_ hk_ hs_ => (hk_) hs_)) (fun k_ hk_ => hk_.1)); have n1_ := Aside0.mk (Kd.R_reok rfl hy0 (fun k_ e_ => HO_9.out.1 k_ e_)); have n2_ := Aside0.mk (hb); clear HO_5; clear HO_9; clear HB; have HO_5 := n0_; have HO_9 := n1_; have HB := n2_; clear n0_ n1_ n2_; (try clear hb); (try clear hkp); (try clear hy0)) | ((with_reducible refine gate_callee (f := 17) rfl ?_); refine goesL_ (some 83) rfl rfl Try.func17 (by kernel_rfl) rfl #[.slice Ao47 t126.length co47, .int .i64 1] rfl (by (try simp only [List.map_toArray, List.map_cons, List.map_nil]); first | done | (rw [show t126.length = t112.length from (Kd.R_reads' HO_9.out).1.symm] <;> rfl) | rfl | (simp only [List.length_drop, List.length_take]; rfl)) ?_; (with_reducible refine (laws_heldIntS.calls kj28 _ _ t126 1 t127 _ ?side1 ?side2 A45.out).mono ?_); (case side1 => repeat (first | exact (Kd.R_reads' HO_9.out).2.2 | (with_reducible refine Kd.C_alloc ?_ _) | (with_reducible refine Kd.C_drewN ?_ _) | (with_reducible refine Kd.C_drew ?_))); (case side2 => rw [show t126.length = t112.length from (Kd.R_reads' HO_9.out).1.symm]; exact (Kd.R_reads' HO_9.out).2.1); rintro e w' ⟨rfl, ⟨nd, rfl⟩⟩; refine ⟨_, rfl, ?_⟩))
                    go_ret
                    exact ⟨by first | rfl | (simp [errW_none, errW_some] <;> rfl) | (simp [*, errW_none, errW_some] <;> rfl), by repeat (first | (with_reducible first | exact HB.out | apply below_alloc | apply pw_below_drewN | apply below_drew1) | exact HB.out)⟩
                  · rw [if_neg c46] at H
                    have c46b0 : decide (t127 < 0) = false := decide_eq_false c46
                    clear c46
                    by_cases c49 : t127 = t125
                    · rw [if_pos c49] at H
                      have c49b0 : (t127 == t125) = true := beq_iff_eq.mpr c49
                      have c49b1 : (t127 != t125) = false := bne_eq_false_iff_eq.mpr c49
                      clear c49
                      replace H := Option.bind_eq_some_iff.mp H
                      obtain ⟨t128, A500, H⟩ := H
                      replace H : ((impl_GiveLongest.f kj28 t128 a1).bind fun bt131 => ((laws_eqIntS.f kj28 bt131.1 t104).bind fun t136 => (if t136 = true then (if bt131.2.1 = t105 then (laws_FnExactGiveLongest.j2 kj28 t126 t125 (bt131.2.2 != t106)) else (laws_FnExactGiveLongest.j2 kj28 t126 t125 true)) else (laws_FnExactGiveLongest.j2 kj28 t126 t125 true)))) = some r := H
                      have A50 := Aside0.mk A500
                      clear A500
                      replace H := Option.bind_eq_some_iff.mp H
                      obtain ⟨⟨t131, t132, t133⟩, A510, H⟩ := H
                      replace H : ((laws_eqIntS.f kj28 t131 t104).bind fun t136 => (if t136 = true then (if t132 = t105 then (laws_FnExactGiveLongest.j2 kj28 t126 t125 (t133 != t106)) else (laws_FnExactGiveLongest.j2 kj28 t126 t125 true)) else (laws_FnExactGiveLongest.j2 kj28 t126 t125 true))) = some r := H
                      have A51 := Aside0.mk A510
                      clear A510
                      have HC52 := Aside0.mk H
                      clear H
                      obtain ⟨Ao53, co53, eo53⟩ := Kd.R_slice HO_9.out
                      subst eo53
                      go_upto_region 23 with (first | ((with_reducible refine gate_callee (f := 16) rfl ?_); refine goesL_ (some 80) rfl rfl Try.func16 (by kernel_rfl) rfl #[.slice Ao53 t112.length co53, .int .i64 1] rfl (by (try simp only [List.map_toArray, List.map_cons, List.map_nil]); first | done | rfl | (simp only [List.length_drop, List.length_take]; rfl)) ?_; (with_reducible refine (laws_markIntS.calls kj28 (fun k_ => some k_ = (.slice Ao53 t112.length co53 : Value).ownBlock) (.slice Ao53 t112.length co53) t112 1 t125 t126 w _ ?side1 ?side2 A44.out).mono ?_); (case side1 => repeat (first | (with_reducible first | exact HB.out | apply below_alloc | apply pw_below_drewN | apply below_drew1) | exact HB.out)); (case side2 => exact Kd.R_tight rfl HO_9.out); rintro e w54 ⟨rfl, hy0, hb, hkp⟩; refine ⟨_, rfl, ?_⟩; have n0_ := Aside0.mk (Kd.R_mono (ok' := fun k_ => some k_ ≠ (.slice Ao53 t112.length co53 : Value).ownBlock) (Kd.R_keptB (HO_5.out) hkp (fun k_ hk_ hs_ => (hk_) hs_)) (fun k_ hk_ => hk_.1)); have n1_ := Aside0.mk (Kd.R_reok rfl hy0 (fun k_ e_ => HO_9.out.1 k_ e_)); have n2_ := Aside0.mk (hb); clear HO_5; clear HO_9; clear HB; have HO_5 := n0_; have HO_9 := n1_; have HB := n2_; clear n0_ n1_ n2_; (try clear hb); (try clear hkp); (try clear hy0)) | ((with_reducible refine gate_callee (f := 17) rfl ?_); refine goesL_ (some 83) rfl rfl Try.func17 (by kernel_rfl) rfl #[.slice Ao53 t126.length co53, .int .i64 1] rfl (by (try simp only [List.map_toArray, List.map_cons, List.map_nil]); first | done | (rw [show t126.length = t112.length from (Kd.R_reads' HO_9.out).1.symm] <;> rfl) | rfl | (simp only [List.length_drop, List.length_take]; rfl)) ?_; (with_reducible refine (laws_heldIntS.calls kj28 _ _ t126 1 t127 _ ?side1 ?side2 A45.out).mono ?_); (case side1 => repeat (first | exact (Kd.R_reads' HO_9.out).2.2 | (with_reducible refine Kd.C_alloc ?_ _) | (with_reducible refine Kd.C_drewN ?_ _) | (with_reducible refine Kd.C_drew ?_))); (case side2 => rw [show t126.length = t112.length from (Kd.R_reads' HO_9.out).1.symm]; exact (Kd.R_reads' HO_9.out).2.1); rintro e w' ⟨rfl, ⟨nd, rfl⟩⟩; refine ⟨_, rfl, ?_⟩) | ((with_reducible refine gate_callee (f := 7) rfl ?_); refine goesL_ (some 91) rfl rfl Try.func7 (by kernel_rfl) rfl #[.slice A0 l0.length c0] rfl (by (try simp only [List.map_toArray, List.map_cons, List.map_nil]); first | done | rfl | (simp only [List.length_drop, List.length_take]; rfl)) ?_; (with_reducible refine (laws_toIntS.calls kj28 _ _ l0 t128 _ ?side1 ?side2 A50.out).mono ?_); (case side1 => repeat (first | exact (Kd.C_below HR0.out (by repeat (first | (with_reducible first | exact HB.out | apply below_alloc | apply pw_below_drewN | apply below_drew1) | exact HB.out))) | (with_reducible refine Kd.C_alloc ?_ _) | (with_reducible refine Kd.C_drewN ?_ _) | (with_reducible refine Kd.C_drew ?_))); (case side2 => exact HC0.out); rintro e w55 ⟨v129, rfl, ho0, hb⟩; refine ⟨_, rfl, ?_⟩; have n0_ := Aside0.mk (Kd.R_elder' (by (with_reducible repeat (first | apply Kd.R_alloc | apply Kd.R_drewN | apply Kd.R_drew)); exact HO_5.out) (Kd.R_base ho0) hb); have n1_ := Aside0.mk (Kd.R_elder' (by (with_reducible repeat (first | apply Kd.R_alloc | apply Kd.R_drewN | apply Kd.R_drew)); exact HO_9.out) (Kd.R_base ho0) hb); have n2_ := Aside0.mk (Kd.R_lower (Kd.R_new' (Kd.R_new' ho0 (Kd.R_lt (by (with_reducible repeat (first | apply Kd.R_alloc | apply Kd.R_drewN | apply Kd.R_drew)); exact HO_5.out))) (Kd.R_lt (by (with_reducible repeat (first | apply Kd.R_alloc | apply Kd.R_drewN | apply Kd.R_drew)); exact HO_9.out))) (below_size (by repeat (first | (with_reducible first | exact HB.out | apply below_alloc | apply pw_below_drewN | apply below_drew1) | exact HB.out)))); have n3_ := Aside0.mk (below_step (by repeat (first | (with_reducible first | exact HB.out | apply below_alloc | apply pw_below_drewN | apply below_drew1) | exact HB.out)) hb); clear HO_5; clear HO_9; clear HB; have HO_5 := n0_; have HO_9 := n1_; have HO130 := n2_; have HB := n3_; clear n0_ n1_ n2_ n3_; (try clear hb); (try clear hb2); (try clear hk); (try clear hi); (try clear ho0); obtain ⟨Ao56, co56, eo56⟩ := Kd.R_slice HO130.out; subst eo56) | ((with_reducible refine gate_callee (f := 19) rfl ?_); refine goesL_ (some 93) rfl rfl Try.func19 (by kernel_rfl) rfl #[.slice Ao56 t128.length co56, .int .i64 a1] rfl (by (try simp only [List.map_toArray, List.map_cons, List.map_nil]); first | done | rfl | (simp only [List.length_drop, List.length_take]; rfl)) ?_; (with_reducible refine (impl_GiveLongest.calls kj28 _ _ t128 a1 t131 t132 t133 _ ?side1 ?side2 A51.out).mono ?_); (case side1 => repeat (first | exact (Kd.R_reads' HO130.out).2.2 | (with_reducible refine Kd.C_alloc ?_ _) | (with_reducible refine Kd.C_drewN ?_ _) | (with_reducible refine Kd.C_drew ?_))); (case side2 => exact (Kd.R_reads' HO130.out).2.1); rintro e w57 ⟨v134, rfl, ho0, hb⟩; refine ⟨_, rfl, ?_⟩; have n0_ := Aside0.mk (Kd.R_elder' (by (with_reducible repeat (first | apply Kd.R_alloc | apply Kd.R_drewN | apply Kd.R_drew)); exact HO_5.out) (Kd.R_base ho0) hb); have n1_ := Aside0.mk (Kd.R_elder' (by (with_reducible repeat (first | apply Kd.R_alloc | apply Kd.R_drewN | apply Kd.R_drew)); exact HO_9.out) (Kd.R_base ho0) hb); have n2_ := Aside0.mk (Kd.R_elder' (by (with_reducible repeat (first | apply Kd.R_alloc | apply Kd.R_drewN | apply Kd.R_drew)); exact HO130.out) (Kd.R_base ho0) hb); have n3_ := Aside0.mk (Kd.R_lower (Kd.R_new' (Kd.R_new' (Kd.R_new' ho0 (Kd.R_lt (by (with_reducible repeat (first | apply Kd.R_alloc | apply Kd.R_drewN | apply Kd.R_drew)); exact HO_5.out))) (Kd.R_lt (by (with_reducible repeat (first | apply Kd.R_alloc | apply Kd.R_drewN | apply Kd.R_drew)); exact HO_9.out))) (Kd.R_lt (by (with_reducible repeat (first | apply Kd.R_alloc | apply Kd.R_drewN | apply Kd.R_drew)); exact HO130.out))) (below_size (by repeat (first | (with_reducible first | exact HB.out | apply below_alloc | apply pw_below_drewN | apply below_drew1) | exact HB.out)))); have n4_ := Aside0.mk (below_step (by repeat (first | (with_reducible first | exact HB.out | apply below_alloc | apply pw_below_drewN | apply below_drew1) | exact HB.out)) hb); clear HO_5; clear HO_9; clear HO130; clear HB; have HO_5 := n0_; have HO_9 := n1_; have HO130 := n2_; have HO135 := n3_; have HB := n4_; clear n0_ n1_ n2_ n3_ n4_; (try clear hb); (try clear hb2); (try clear hk); (try clear hi); (try clear ho0)))
                      (try simp only [Act.put, List.setIfInBounds_toArray, List.set_cons_zero, List.set_cons_succ])
                      go_cut [110] (fun v110 wc => ∃ (kq : Nat) (x110_51 : Bool), v110 = .bool x110_51 ∧ Aside0 (laws_FnExactGiveLongest.j2 kq t126 t125 x110_51 = some r) ∧ Aside0 (kq ≤ kj28) ∧ Aside0 (Kd.R (Kd.int .i64) 3 wc w.heap.size (fun _ => True) (.slice Ao53 t112.length co53) t126) ∧ Aside0 (Below w.heap.size w wc))
                      case first =>
                        have H := HC52.out
                        clear HC52
                        replace H := Option.bind_eq_some_iff.mp H
                        obtain ⟨t136, A580, H⟩ := H
                        replace H : (if t136 = true then (if t132 = t105 then (laws_FnExactGiveLongest.j2 kj28 t126 t125 (t133 != t106)) else (laws_FnExactGiveLongest.j2 kj28 t126 t125 true)) else (laws_FnExactGiveLongest.j2 kj28 t126 t125 true)) = some r := H
                        have A58 := Aside0.mk A580
                        clear A580
                        by_cases c59 : t136 = true
                        · subst c59
                          have H1 : (if t132 = t105 then (laws_FnExactGiveLongest.j2 kj28 t126 t125 (t133 != t106)) else (laws_FnExactGiveLongest.j2 kj28 t126 t125 true)) = some r := by rw [if_pos rfl] at H; exact H
                          clear H
                          have H := H1
                          clear H1
                          by_cases c60 : t132 = t105
                          · rw [if_pos c60] at H
                            have c60b0 : (t132 == t105) = true := beq_iff_eq.mpr c60
                            have c60b1 : (t132 != t105) = false := bne_eq_false_iff_eq.mpr c60
                            clear c60
                            (first | rw [c60b0] | (simp only [i64_w, i32_w]; rw [c60b0]) | skip)
                            have H' := Aside0.mk H
                            clear H
                            obtain ⟨Ao61, co61, eo61⟩ := Kd.R_slice HO135.out
                            subst eo61
                            obtain ⟨Ao62, co62, eo62⟩ := Kd.R_slice HO_5.out
                            subst eo62
                            go_wp2_with (first | ((with_reducible refine gate_callee (f := 9) rfl ?_); refine goesL_ (some 99) rfl rfl Try.func9 (by kernel_rfl) rfl #[.slice Ao61 t131.length co61, .slice Ao62 t104.length co62] rfl (by (try simp only [List.map_toArray, List.map_cons, List.map_nil]); first | done | rfl | (simp only [List.length_drop, List.length_take]; rfl)) ?_; (with_reducible refine (laws_eqIntS.calls kj28 _ _ t131 _ _ t104 true _ ?side1 ?side2 ?side3 ?side4 A58.out).mono ?_); (case side1 => repeat (first | exact (Kd.R_reads' HO135.out).2.2 | (with_reducible refine Kd.C_alloc ?_ _) | (with_reducible refine Kd.C_drewN ?_ _) | (with_reducible refine Kd.C_drew ?_))); (case side2 => exact (Kd.R_reads' HO135.out).2.1); (case side3 => repeat (first | exact (Kd.R_reads' HO_5.out).2.2 | (with_reducible refine Kd.C_alloc ?_ _) | (with_reducible refine Kd.C_drewN ?_ _) | (with_reducible refine Kd.C_drew ?_))); (case side4 => exact (Kd.R_reads' HO_5.out).2.1); rintro e w' ⟨rfl, ⟨nd, rfl⟩⟩; refine ⟨_, rfl, ?_⟩))
                            go_meet
                            case rel => exact ⟨_, ((t133 != t106)), (by first | rfl | (simp; done) | (simp [*]; done)), H', ⟨by have := HJ7.out; have := HJ28.out; first | omega | exact Nat.le_refl _⟩, ⟨by (with_reducible repeat (first | apply Kd.R_alloc | apply Kd.R_drewN | apply Kd.R_drew)); exact Kd.R_mono HO_9.out (fun _ hk => trivial)⟩, ⟨by repeat (first | (with_reducible first | exact HB.out | apply below_alloc | apply pw_below_drewN | apply below_drew1) | exact HB.out)⟩⟩
                          · rw [if_neg c60] at H
                            have c60b0 : (t132 == t105) = false := beq_eq_false_iff_ne.mpr c60
                            have c60b1 : (t132 != t105) = true := bne_iff_ne.mpr c60
                            (first | rw [c60b0] | (simp only [i64_w, i32_w]; rw [c60b0]) | skip)
                            have H' := Aside0.mk H
                            clear H
                            obtain ⟨Ao63, co63, eo63⟩ := Kd.R_slice HO135.out
                            subst eo63
                            obtain ⟨Ao64, co64, eo64⟩ := Kd.R_slice HO_5.out
                            subst eo64
                            go_wp2_with (first | ((with_reducible refine gate_callee (f := 9) rfl ?_); refine goesL_ (some 99) rfl rfl Try.func9 (by kernel_rfl) rfl #[.slice Ao63 t131.length co63, .slice Ao64 t104.length co64] rfl (by (try simp only [List.map_toArray, List.map_cons, List.map_nil]); first | done | rfl | (simp only [List.length_drop, List.length_take]; rfl)) ?_; (with_reducible refine (laws_eqIntS.calls kj28 _ _ t131 _ _ t104 true _ ?side1 ?side2 ?side3 ?side4 A58.out).mono ?_); (case side1 => repeat (first | exact (Kd.R_reads' HO135.out).2.2 | (with_reducible refine Kd.C_alloc ?_ _) | (with_reducible refine Kd.C_drewN ?_ _) | (with_reducible refine Kd.C_drew ?_))); (case side2 => exact (Kd.R_reads' HO135.out).2.1); (case side3 => repeat (first | exact (Kd.R_reads' HO_5.out).2.2 | (with_reducible refine Kd.C_alloc ?_ _) | (with_reducible refine Kd.C_drewN ?_ _) | (with_reducible refine Kd.C_drew ?_))); (case side4 => exact (Kd.R_reads' HO_5.out).2.1); rintro e w' ⟨rfl, ⟨nd, rfl⟩⟩; refine ⟨_, rfl, ?_⟩))
                            go_meet
                            case rel => exact ⟨_, (true), (by first | rfl | (simp; done) | (simp [*]; done)), H', ⟨by have := HJ7.out; have := HJ28.out; first | omega | exact Nat.le_refl _⟩, ⟨by (with_reducible repeat (first | apply Kd.R_alloc | apply Kd.R_drewN | apply Kd.R_drew)); exact Kd.R_mono HO_9.out (fun _ hk => trivial)⟩, ⟨by repeat (first | (with_reducible first | exact HB.out | apply below_alloc | apply pw_below_drewN | apply below_drew1) | exact HB.out)⟩⟩
                        · replace c59 := Bool.eq_false_iff.mpr c59
                          subst c59
                          have H1 : (laws_FnExactGiveLongest.j2 kj28 t126 t125 true) = some r := by rw [if_neg (show ¬ (false = true) by decide)] at H; exact H
                          clear H
                          have H := H1
                          clear H1
                          have H' := Aside0.mk H
                          clear H
                          obtain ⟨Ao65, co65, eo65⟩ := Kd.R_slice HO135.out
                          subst eo65
                          obtain ⟨Ao66, co66, eo66⟩ := Kd.R_slice HO_5.out
                          subst eo66
                          go_wp2_with (first | ((with_reducible refine gate_callee (f := 9) rfl ?_); refine goesL_ (some 99) rfl rfl Try.func9 (by kernel_rfl) rfl #[.slice Ao65 t131.length co65, .slice Ao66 t104.length co66] rfl (by (try simp only [List.map_toArray, List.map_cons, List.map_nil]); first | done | rfl | (simp only [List.length_drop, List.length_take]; rfl)) ?_; (with_reducible refine (laws_eqIntS.calls kj28 _ _ t131 _ _ t104 false _ ?side1 ?side2 ?side3 ?side4 A58.out).mono ?_); (case side1 => repeat (first | exact (Kd.R_reads' HO135.out).2.2 | (with_reducible refine Kd.C_alloc ?_ _) | (with_reducible refine Kd.C_drewN ?_ _) | (with_reducible refine Kd.C_drew ?_))); (case side2 => exact (Kd.R_reads' HO135.out).2.1); (case side3 => repeat (first | exact (Kd.R_reads' HO_5.out).2.2 | (with_reducible refine Kd.C_alloc ?_ _) | (with_reducible refine Kd.C_drewN ?_ _) | (with_reducible refine Kd.C_drew ?_))); (case side4 => exact (Kd.R_reads' HO_5.out).2.1); rintro e w' ⟨rfl, ⟨nd, rfl⟩⟩; refine ⟨_, rfl, ?_⟩))
                          go_meet
                          case rel => exact ⟨_, (true), (by first | rfl | (simp; done) | (simp [*]; done)), H', ⟨by have := HJ7.out; have := HJ28.out; first | omega | exact Nat.le_refl _⟩, ⟨by (with_reducible repeat (first | apply Kd.R_alloc | apply Kd.R_drewN | apply Kd.R_drew)); exact Kd.R_mono HO_9.out (fun _ hk => trivial)⟩, ⟨by repeat (first | (with_reducible first | exact HB.out | apply below_alloc | apply pw_below_drewN | apply below_drew1) | exact HB.out)⟩⟩
                      case rest =>
                        clear HC52
                        try clear c1
                        try clear c2
                        try clear p2
                        try clear c3
                        try clear c3b0
                        try clear c3b1
                        try clear c4
                        try clear c5
                        try clear c6
                        try clear c7
                        try clear c9
                        try clear c16
                        try clear c17
                        try clear c17b0
                        try clear c17b1
                        try clear c18
                        try clear c19
                        try clear c24
                        try clear c27
                        try clear c33
                        try clear c33b0
                        try clear c35
                        try clear c36
                        try clear c36b0
                        try clear c36b1
                        try clear c43
                        try clear c46
                        try clear c46b0
                        try clear c49
                        try clear c49b0
                        try clear c49b1
                        try clear c59
                        try clear c60
                        try clear c60b0
                        try clear c60b1
                        try clear p2
                        obtain ⟨kq, x110_51, rfl, HA, HJ51, HO_9, HB⟩ := hcut
                        have hl9_51 := (Kd.R_reads' HO_9.out).1
                        rw [hl9_51] at HO_9
                        (try simp only [hl9_51])
                        cases kq with
                        | zero => exact absurd HA.out (by simp [laws_FnExactGiveLongest.j2])
                        | succ kj51 =>
                          have H := HA.out
                          clear HA
                          simp only [laws_FnExactGiveLongest.j2] at H
                          by_cases c67 : x110_51 = true
                          · subst c67
                            have H1 : (some false) = some r := by rw [if_pos rfl] at H; exact H
                            clear H
                            have H := H1
                            clear H1
                            obtain rfl := Option.some.inj H
                            go_wp2
                            go_ret
                            exact ⟨by first | rfl | (simp [errW_none, errW_some] <;> rfl) | (simp [*, errW_none, errW_some] <;> rfl), by repeat (first | (with_reducible first | exact HB.out | apply below_alloc | apply pw_below_drewN | apply below_drew1) | exact HB.out)⟩
                          · replace c67 := Bool.eq_false_iff.mpr c67
                            subst c67
                            have H1 : ((laws_heldIntS.f kj51 t126 1).bind fun t137 => (if t137 < 0 then (some false) else (if t137 = t125 then (some true) else (some false)))) = some r := by rw [if_neg (show ¬ (false = true) by decide)] at H; exact H
                            clear H
                            have H := H1
                            clear H1
                            replace H := Option.bind_eq_some_iff.mp H
                            obtain ⟨t137, A680, H⟩ := H
                            replace H : (if t137 < 0 then (some false) else (if t137 = t125 then (some true) else (some false))) = some r := H
                            have A68 := Aside0.mk A680
                            clear A680
                            by_cases c69 : t137 < 0
                            · rw [if_pos c69] at H
                              have c69b0 : decide (t137 < 0) = true := decide_eq_true c69
                              clear c69
                              obtain rfl := Option.some.inj H
                              go_wp2_with (first | ((with_reducible refine gate_callee (f := 17) rfl ?_); refine goesL_ (some 113) rfl rfl Try.func17 (by kernel_rfl) rfl #[.slice Ao53 t126.length co53, .int .i64 1] rfl (by (try simp only [List.map_toArray, List.map_cons, List.map_nil]); first | done | rfl | (simp only [List.length_drop, List.length_take]; rfl)) ?_; (with_reducible refine (laws_heldIntS.calls kj51 _ _ t126 1 t137 _ ?side1 ?side2 A68.out).mono ?_); (case side1 => repeat (first | exact (Kd.R_reads' HO_9.out).2.2 | (with_reducible refine Kd.C_alloc ?_ _) | (with_reducible refine Kd.C_drewN ?_ _) | (with_reducible refine Kd.C_drew ?_))); (case side2 => exact (Kd.R_reads' HO_9.out).2.1); rintro e w' ⟨rfl, ⟨nd, rfl⟩⟩; refine ⟨_, rfl, ?_⟩))
                              go_ret
                              exact ⟨by first | rfl | (simp [errW_none, errW_some] <;> rfl) | (simp [*, errW_none, errW_some] <;> rfl), by repeat (first | (with_reducible first | exact HB.out | apply below_alloc | apply pw_below_drewN | apply below_drew1) | exact HB.out)⟩
                            · rw [if_neg c69] at H
                              have c69b0 : decide (t137 < 0) = false := decide_eq_false c69
                              clear c69
                              by_cases c70 : t137 = t125
                              · rw [if_pos c70] at H
                                have c70b0 : (t137 == t125) = true := beq_iff_eq.mpr c70
                                have c70b1 : (t137 != t125) = false := bne_eq_false_iff_eq.mpr c70
                                clear c70
                                obtain rfl := Option.some.inj H
                                go_wp2_with (first | ((with_reducible refine gate_callee (f := 17) rfl ?_); refine goesL_ (some 113) rfl rfl Try.func17 (by kernel_rfl) rfl #[.slice Ao53 t126.length co53, .int .i64 1] rfl (by (try simp only [List.map_toArray, List.map_cons, List.map_nil]); first | done | rfl | (simp only [List.length_drop, List.length_take]; rfl)) ?_; (with_reducible refine (laws_heldIntS.calls kj51 _ _ t126 1 t137 _ ?side1 ?side2 A68.out).mono ?_); (case side1 => repeat (first | exact (Kd.R_reads' HO_9.out).2.2 | (with_reducible refine Kd.C_alloc ?_ _) | (with_reducible refine Kd.C_drewN ?_ _) | (with_reducible refine Kd.C_drew ?_))); (case side2 => exact (Kd.R_reads' HO_9.out).2.1); rintro e w' ⟨rfl, ⟨nd, rfl⟩⟩; refine ⟨_, rfl, ?_⟩))
                                go_ret
                                exact ⟨by first | rfl | (simp [errW_none, errW_some] <;> rfl) | (simp [*, errW_none, errW_some] <;> rfl), by repeat (first | (with_reducible first | exact HB.out | apply below_alloc | apply pw_below_drewN | apply below_drew1) | exact HB.out)⟩
                              · rw [if_neg c70] at H
                                have c70b0 : (t137 == t125) = false := beq_eq_false_iff_ne.mpr c70
                                have c70b1 : (t137 != t125) = true := bne_iff_ne.mpr c70
                                obtain rfl := Option.some.inj H
                                go_wp2_with (first | ((with_reducible refine gate_callee (f := 17) rfl ?_); refine goesL_ (some 113) rfl rfl Try.func17 (by kernel_rfl) rfl #[.slice Ao53 t126.length co53, .int .i64 1] rfl (by (try simp only [List.map_toArray, List.map_cons, List.map_nil]); first | done | rfl | (simp only [List.length_drop, List.length_take]; rfl)) ?_; (with_reducible refine (laws_heldIntS.calls kj51 _ _ t126 1 t137 _ ?side1 ?side2 A68.out).mono ?_); (case side1 => repeat (first | exact (Kd.R_reads' HO_9.out).2.2 | (with_reducible refine Kd.C_alloc ?_ _) | (with_reducible refine Kd.C_drewN ?_ _) | (with_reducible refine Kd.C_drew ?_))); (case side2 => exact (Kd.R_reads' HO_9.out).2.1); rintro e w' ⟨rfl, ⟨nd, rfl⟩⟩; refine ⟨_, rfl, ?_⟩))
                                go_ret
                                exact ⟨by first | rfl | (simp [errW_none, errW_some] <;> rfl) | (simp [*, errW_none, errW_some] <;> rfl), by repeat (first | (with_reducible first | exact HB.out | apply below_alloc | apply pw_below_drewN | apply below_drew1) | exact HB.out)⟩
                    · rw [if_neg c49] at H
                      have c49b0 : (t127 == t125) = false := beq_eq_false_iff_ne.mpr c49
                      have c49b1 : (t127 != t125) = true := bne_iff_ne.mpr c49
                      obtain rfl := Option.some.inj H
                      obtain ⟨Ao71, co71, eo71⟩ := Kd.R_slice HO_9.out
                      subst eo71
                      go_wp2_with (first | ((with_reducible refine gate_callee (f := 16) rfl ?_); refine goesL_ (some 80) rfl rfl Try.func16 (by kernel_rfl) rfl #[.slice Ao71 t112.length co71, .int .i64 1] rfl (by (try simp only [List.map_toArray, List.map_cons, List.map_nil]); first | done | rfl | (simp only [List.length_drop, List.length_take]; rfl)) ?_; (with_reducible refine (laws_markIntS.calls kj28 (fun k_ => some k_ = (.slice Ao71 t112.length co71 : Value).ownBlock) (.slice Ao71 t112.length co71) t112 1 t125 t126 w _ ?side1 ?side2 A44.out).mono ?_); (case side1 => repeat (first | (with_reducible first | exact HB.out | apply below_alloc | apply pw_below_drewN | apply below_drew1) | exact HB.out)); (case side2 => exact Kd.R_tight rfl HO_9.out); rintro e w72 ⟨rfl, hy0, hb, hkp⟩; refine ⟨_, rfl, ?_⟩; have n0_ := Aside0.mk (Kd.R_mono (ok' := fun k_ => some k_ ≠ (.slice Ao71 t112.length co71 : Value).ownBlock) (Kd.R_keptB (HO_5.out) hkp (fun k_ hk_ hs_ => (hk_) hs_)) (fun k_ hk_ => hk_.1)); have n1_ := Aside0.mk (Kd.R_reok rfl hy0 (fun k_ e_ => HO_9.out.1 k_ e_)); have n2_ := Aside0.mk (hb); clear HO_5; clear HO_9; clear HB; have HO_5 := n0_; have HO_9 := n1_; have HB := n2_; clear n0_ n1_ n2_; (try clear hb); (try clear hkp); (try clear hy0)) | ((with_reducible refine gate_callee (f := 17) rfl ?_); refine goesL_ (some 83) rfl rfl Try.func17 (by kernel_rfl) rfl #[.slice Ao71 t126.length co71, .int .i64 1] rfl (by (try simp only [List.map_toArray, List.map_cons, List.map_nil]); first | done | (rw [show t126.length = t112.length from (Kd.R_reads' HO_9.out).1.symm] <;> rfl) | rfl | (simp only [List.length_drop, List.length_take]; rfl)) ?_; (with_reducible refine (laws_heldIntS.calls kj28 _ _ t126 1 t127 _ ?side1 ?side2 A45.out).mono ?_); (case side1 => repeat (first | exact (Kd.R_reads' HO_9.out).2.2 | (with_reducible refine Kd.C_alloc ?_ _) | (with_reducible refine Kd.C_drewN ?_ _) | (with_reducible refine Kd.C_drew ?_))); (case side2 => rw [show t126.length = t112.length from (Kd.R_reads' HO_9.out).1.symm]; exact (Kd.R_reads' HO_9.out).2.1); rintro e w' ⟨rfl, ⟨nd, rfl⟩⟩; refine ⟨_, rfl, ?_⟩))
                      go_ret
                      exact ⟨by first | rfl | (simp [errW_none, errW_some] <;> rfl) | (simp [*, errW_none, errW_some] <;> rfl), by repeat (first | (with_reducible first | exact HB.out | apply below_alloc | apply pw_below_drewN | apply below_drew1) | exact HB.out)⟩
          · replace c27 := Bool.eq_false_iff.mpr c27
            subst c27
            have H1 : (some false) = some r := by rw [if_neg (show ¬ (false = true) by decide)] at H; exact H
            clear H
            have H := H1
            clear H1
            obtain rfl := Option.some.inj H
            go_wp2_with (first | ((with_reducible refine gate_callee (f := 7) rfl ?_); refine goesL_ (some 54) rfl rfl Try.func7 (by kernel_rfl) rfl #[.slice A0 l0.length c0] rfl (by (try simp only [List.map_toArray, List.map_cons, List.map_nil]); first | done | rfl | (simp only [List.length_drop, List.length_take]; rfl)) ?_; (with_reducible refine (laws_toIntS.calls kj7 _ _ l0 t118 _ ?side1 ?side2 A25.out).mono ?_); (case side1 => repeat (first | exact (Kd.C_below HR0.out HB.out) | (with_reducible refine Kd.C_alloc ?_ _) | (with_reducible refine Kd.C_drewN ?_ _) | (with_reducible refine Kd.C_drew ?_))); (case side2 => exact HC0.out); rintro e w73 ⟨v119, rfl, ho0, hb⟩; refine ⟨_, rfl, ?_⟩; have n0_ := Aside0.mk (Kd.R_elder' (by (with_reducible repeat (first | apply Kd.R_alloc | apply Kd.R_drewN | apply Kd.R_drew)); exact HO_5.out) (Kd.R_base ho0) hb); have n1_ := Aside0.mk (Kd.R_elder' (by (with_reducible repeat (first | apply Kd.R_alloc | apply Kd.R_drewN | apply Kd.R_drew)); exact HO_8.out) (Kd.R_base ho0) hb); have n2_ := Aside0.mk (Kd.R_elder' (by (with_reducible repeat (first | apply Kd.R_alloc | apply Kd.R_drewN | apply Kd.R_drew)); exact HO_9.out) (Kd.R_base ho0) hb); have n3_ := Aside0.mk (Kd.R_lower (Kd.R_new' (Kd.R_new' (Kd.R_new' ho0 (Kd.R_lt (by (with_reducible repeat (first | apply Kd.R_alloc | apply Kd.R_drewN | apply Kd.R_drew)); exact HO_5.out))) (Kd.R_lt (by (with_reducible repeat (first | apply Kd.R_alloc | apply Kd.R_drewN | apply Kd.R_drew)); exact HO_8.out))) (Kd.R_lt (by (with_reducible repeat (first | apply Kd.R_alloc | apply Kd.R_drewN | apply Kd.R_drew)); exact HO_9.out))) (below_size (by repeat (first | (with_reducible first | exact HB.out | apply below_alloc | apply pw_below_drewN | apply below_drew1) | exact HB.out)))); have n4_ := Aside0.mk (below_step (by repeat (first | (with_reducible first | exact HB.out | apply below_alloc | apply pw_below_drewN | apply below_drew1) | exact HB.out)) hb); clear HO_5; clear HO_8; clear HO_9; clear HB; have HO_5 := n0_; have HO_8 := n1_; have HO_9 := n2_; have HO120 := n3_; have HB := n4_; clear n0_ n1_ n2_ n3_ n4_; (try clear hb); (try clear hb2); (try clear hk); (try clear hi); (try clear ho0); obtain ⟨Ao74, co74, eo74⟩ := Kd.R_slice HO120.out; subst eo74) | ((with_reducible refine gate_callee (f := 9) rfl ?_); refine goesL_ (some 55) rfl rfl Try.func9 (by kernel_rfl) rfl #[.slice Ao13 t109.length co13, .slice Ao74 t118.length co74] rfl (by (try simp only [List.map_toArray, List.map_cons, List.map_nil]); first | done | rfl | (simp only [List.length_drop, List.length_take]; rfl)) ?_; (with_reducible refine (laws_eqIntS.calls kj7 _ _ t109 _ _ t118 false _ ?side1 ?side2 ?side3 ?side4 A26.out).mono ?_); (case side1 => repeat (first | exact (Kd.R_reads' HO_8.out).2.2 | (with_reducible refine Kd.C_alloc ?_ _) | (with_reducible refine Kd.C_drewN ?_ _) | (with_reducible refine Kd.C_drew ?_))); (case side2 => exact (Kd.R_reads' HO_8.out).2.1); (case side3 => repeat (first | exact (Kd.R_reads' HO120.out).2.2 | (with_reducible refine Kd.C_alloc ?_ _) | (with_reducible refine Kd.C_drewN ?_ _) | (with_reducible refine Kd.C_drew ?_))); (case side4 => exact (Kd.R_reads' HO120.out).2.1); rintro e w' ⟨rfl, ⟨nd, rfl⟩⟩; refine ⟨_, rfl, ?_⟩))
            go_ret
            exact ⟨by first | rfl | (simp [errW_none, errW_some] <;> rfl) | (simp [*, errW_none, errW_some] <;> rfl), by repeat (first | (with_reducible first | exact HB.out | apply below_alloc | apply pw_below_drewN | apply below_drew1) | exact HB.out)⟩

end Go.Proofs.Ytpicfpdpcbncmaa.P

/- Reading of arguments by kind: what the row's reader can read is a value of the printed kind. -/
namespace Go.Proofs.Ytpicfpdpcbncmaa.Opn
open Go.RowKit Go.Proofs.YtpicfpdpcbncmaaW.PrintWords

structure Opens {α : Type} (P : Program) (t : TypeId) (d : Kd α) (wf : α → Prop) : Prop where
  out : ∀ {H : Type} (enc : TypeId × Value → H) (W : World) (fuel : Nat) (cs : List Value) (x : DataW H × List MemPlace),
    DataW.trod enc P W 0 (fun _ => true) true fuel t cs = some x → ∃ y, d.K W y cs ∧ wf y

def wfI (x : Int) : Prop := -9223372036854775808 ≤ x ∧ x ≤ 9223372036854775807
def wfB (_ : Bool) : Prop := True
def wfS (x : ByteArray) : Prop := x.size ≤ 9223372036854775807
def wfL {α : Type} (wf : α → Prop) (l : List α) : Prop := l.length ≤ 9223372036854775807 ∧ ∀ x, x ∈ l → wf x

theorem wfI_of {x : Int} (hw : (Lit.int .i64 x).wf = true) : wfI x := by
  simp [Lit.wf] at hw
  exact ⟨by simpa [IntKind.min, IntKind.signed, IntKind.bits] using hw.1, by simpa [IntKind.max, IntKind.signed, IntKind.bits] using hw.2⟩
theorem opens_int {P : Program} {t : TypeId} (h : P.underlying t = some (.int .i64)) : Opens P t (Kd.int .i64) wfI := by
  refine ⟨?_⟩
  intro H enc W fuel cs x hx
  obtain ⟨n, rfl, _, hw⟩ := DataW.trod_int h hx
  exact ⟨n, rfl, wfI_of hw⟩
theorem opens_bool {P : Program} {t : TypeId} (h : P.underlying t = some .bool) : Opens P t Kd.bool wfB := by
  refine ⟨?_⟩
  intro H enc W fuel cs x hx
  obtain ⟨b, rfl, _⟩ := DataW.trod_bool h hx
  exact ⟨b, rfl, trivial⟩
theorem opens_string {P : Program} {t : TypeId} (h : P.underlying t = some .string) : Opens P t Kd.string wfS := by
  refine ⟨?_⟩
  intro H enc W fuel cs x hx
  obtain ⟨b, rfl, _, hs⟩ := DataW.trod_string h hx
  exact ⟨b, rfl, hs⟩

theorem add_add_ (ad : Addr) (m j : Nat) : (ad.add m).add j = ad.add (m + j) := by
  unfold Addr.add
  by_cases hm : m = 0
  · subst hm; simp
  · by_cases hj : j = 0
    · subst hj; simp [hm]
    · simp [hm, hj, Nat.add_assoc]

theorem opens_slice {P : Program} {t e : TypeId} {α : Type} {d : Kd α} {wf : α → Prop} (h : P.underlying t = some (.slice e)) (hsz : P.cellsOf e = d.sz) (ho : Opens P e d wf) : Opens P t (Kd.slice e d) (wfL wf) := by
  refine ⟨?_⟩
  intro H enc W fuel cs x hx
  rcases DataW.trod_slice h hx with ⟨rfl, _⟩ | ⟨a, len, cap, elems, rest, n, _, rfl, _, _, hl, hm, hlen, hel, _, _⟩
  · exact ⟨[], ⟨none, 0, rfl, Nat.le_refl _, rfl, by simp, fun hp => absurd hp (by simp)⟩, by simp, fun x hx => by simp at hx⟩
  · have hm' : len ≤ 9223372036854775807 := by simp only [maxLen] at hm; omega
    have each : ∀ i, i < len → ∃ y c, c.length = d.sz ∧ d.K W y c ∧ wf y ∧ ∀ j u, c[j]? = some u → W.cell? (a.add (i * d.sz + j)) = some u := by
      intro i hi
      have h1 := hel i hi
      rw [List.getElem?_eq_getElem (by omega)] at h1
      obtain ⟨c, hc, hd⟩ := Option.bind_eq_some_iff.1 h1
      obtain ⟨y, hy, hw⟩ := ho.out enc W n c _ hd
      obtain ⟨_, hcl, hcc⟩ := World.cells?_some hc
      refine ⟨y, c, by rw [hcl, hsz], hy, hw, fun j u hu => ?_⟩
      have hj : j < P.cellsOf e := by have := (List.getElem?_eq_some_iff.1 hu).1; omega
      have := hcc j hj
      rw [hu, add_add_, hsz] at this
      exact this
    have build : ∀ k, k ≤ len → ∃ ys : List α, ys.length = k ∧ (∀ y, y ∈ ys → wf y) ∧ ∀ j p, ys[j]? = some p → ∃ c, c.length = d.sz ∧ d.K W p c ∧ ∀ i u, c[i]? = some u → W.cell? (a.add (j * d.sz + i)) = some u := by
      intro k
      induction k with
      | zero => intro _; exact ⟨[], rfl, by simp, by simp⟩
      | succ k ih =>
        intro hk
        obtain ⟨ys, hlys, hw, hy⟩ := ih (by omega)
        obtain ⟨y, c, hcl, hK, hwy, hcell⟩ := each k (by omega)
        refine ⟨ys ++ [y], by simp [hlys], fun z hz => ?_, fun j p hp => ?_⟩
        · rcases List.mem_append.1 hz with hz | hz
          · exact hw z hz
          · rw [List.mem_singleton.1 hz]; exact hwy
        · rcases Nat.lt_or_ge j ys.length with hj | hj
          · rw [List.getElem?_append_left hj] at hp
            exact hy j p hp
          · have hj' : j = ys.length := by
              have := (List.getElem?_eq_some_iff.1 hp).1
              simp at this
              omega
            subst hj'
            have hp' : y = p := by simpa using hp
            subst hp'
            rw [hlys]
            exact ⟨c, hcl, hK, hcell⟩
    obtain ⟨ys, hlys, hw, hy⟩ := build len (Nat.le_refl _)
    subst hlys
    exact ⟨ys, ⟨some a, cap, rfl, hl, rfl, hm', fun _ => ⟨a, rfl, hy⟩⟩, hm', hw⟩

/-- the fields of a struct from an offset on -/
structure OpensF {α : Type} (P : Program) (fs : List Field) (off : Nat) (d : Kd α) (wf : α → Prop) : Prop where
  out : ∀ {H : Type} (enc : TypeId × Value → H) (W : World) (fuel : Nat) (cs : List Value), cs.length = off + d.sz →
    (∀ (i : Nat) (f : Field), fs[i]? = some f → ∃ y, DataW.trod enc P W 0 (fun _ => true) true fuel f.type ((cs.drop f.offset).take (P.cellsOf f.type)) = some y) →
    ∃ y, d.K W y (cs.drop off) ∧ wf y

theorem opens_last {P : Program} {f : Field} {off : Nat} {α : Type} {d : Kd α} {wf : α → Prop} (hoff : f.offset = off) (hsz : P.cellsOf f.type = d.sz) (ho : Opens P f.type d wf) : OpensF P [f] off d wf := by
  refine ⟨?_⟩
  intro H enc W fuel cs hl hf
  obtain ⟨y, hy⟩ := hf 0 f rfl
  rw [hoff, hsz, List.take_of_length_le (by rw [List.length_drop]; omega)] at hy
  exact ho.out enc W fuel _ _ hy

theorem opens_cons {P : Program} {f : Field} {fs : List Field} {off : Nat} {α β : Type} {a : Kd α} {b : Kd β} {wa : α → Prop} {wb : β → Prop} (hoff : f.offset = off) (hsz : P.cellsOf f.type = a.sz)
    (ha : Opens P f.type a wa) (hb : OpensF P fs (off + a.sz) b wb) : OpensF P (f :: fs) off (Kd.pair a b) (fun x => wa x.1 ∧ wb x.2) := by
  refine ⟨?_⟩
  intro H enc W fuel cs hl hf
  have hl' : cs.length = off + (a.sz + b.sz) := hl
  obtain ⟨y, hy⟩ := hf 0 f rfl
  rw [hoff, hsz] at hy
  obtain ⟨p, hp, hwp⟩ := ha.out enc W fuel _ _ hy
  obtain ⟨q, hq, hwq⟩ := hb.out enc W fuel cs (by omega) (fun i g hg => hf (i + 1) g (by simpa using hg))
  refine ⟨(p, q), ⟨(cs.drop off).take a.sz, cs.drop (off + a.sz), ?_, hp, hq⟩, hwp, hwq⟩
  rw [← List.drop_drop, List.take_append_drop]

theorem opens_struct {P : Program} {t : TypeId} {fs : Array Field} {α β : Type} {d : Kd α} {f : β → α} {wf : α → Prop} (hT : P.underlying t = some (.struct fs)) (hsz : P.cellsOf t = d.sz) (g : α → β) (hg : ∀ y, f (g y) = y)
    (ho : OpensF P fs.toList 0 d wf) : Opens P t (Kd.iso d f) (fun x => wf (f x)) := by
  refine ⟨?_⟩
  intro H enc W fuel cs x hx
  obtain ⟨xs, n, _, _, hl, hlen, hf⟩ := DataW.trod_struct hT hx
  obtain ⟨y, hy, hw⟩ := ho.out enc W n cs (by omega) (fun i q hq => ⟨_, (hf i q (by simpa using hq)).trans (List.getElem?_eq_getElem (by
    have := (List.getElem?_eq_some_iff.1 hq).1
    simp at this hlen
    omega))⟩)
  refine ⟨g y, ?_, ?_⟩
  · show d.K W (f (g y)) cs
    rw [hg]
    exact hy
  · show wf (f (g y))
    rw [hg]
    exact hw

end Go.Proofs.Ytpicfpdpcbncmaa.Opn

namespace Go.Proofs.Ytpicfpdpcbncmaa.P
open Go.RowKit Go.Proofs.YtpicfpdpcbncmaaW.PrintWords Go.Proofs.YtpicfpdpcbncmaaW.PrintLast Go.Proofs.YtpicfpdpcbncmaaW.PrintMore Go.Proofs.Ytpicfpdpcbncmaa.Opn
set_option linter.unusedVariables false

theorem opens3 : Opens Try.prog 3 (Kd.int .i64) wfI := opens_int Try.underlying3
theorem opens22 : Opens Try.prog 22 (Kd.slice 3 (Kd.int .i64)) (wfL wfI) := opens_slice Try.underlying22 (by kernel_rfl) opens3

end Go.Proofs.Ytpicfpdpcbncmaa.P

namespace Go.Proofs.Ytpicfpdpcbncmaa.P
open Go.RowKit Go.Proofs.YtpicfpdpcbncmaaW.PrintWords Go.Proofs.YtpicfpdpcbncmaaW.PrintLast Go.Proofs.YtpicfpdpcbncmaaW.PrintMore Go.Proofs.Ytpicfpdpcbncmaa.Opn
set_option linter.unusedVariables false

def laws_FnExactGiveLongest.Pure : Prop := ∀ (l0 : List Int) (a1 : Int), (wfL wfI) l0 → wfI a1 → ∃ k, laws_FnExactGiveLongest.f k l0 a1 = some true

end Go.Proofs.Ytpicfpdpcbncmaa.P

namespace Go.Proofs.Ytpicfpdpcbncmaa.Pure
open Go.RowKit Go.Proofs.Ytpicfpdpcbncmaa.P Go.Proofs.YtpicfpdpcbncmaaW.PrintWords Go.Proofs.YtpicfpdpcbncmaaW.PrintLast Go.Proofs.Ytpicfpdpcbncmaa.Opn
set_option linter.unusedVariables false
set_option linter.unusedSimpArgs false

theorem wrap_id {x : Int} (h0 : -9223372036854775808 ≤ x) (h1 : x ≤ 9223372036854775807) : wrap64 x = x := by
  unfold wrap64
  omega
theorem rd_nat (l : List Int) (i : Nat) (h : i < l.length) : rd l (i : Int) = l[i] := by
  simp [rd, List.getD_eq_getElem?_getD, List.getElem?_eq_getElem h]
theorem drop_rd (l : List Int) (i : Nat) (h : i < l.length) : l.drop i = rd l (i : Int) :: l.drop (i + 1) := by
  rw [List.drop_eq_getElem_cons h, rd_nat l i h]
theorem take_rd (l : List Int) (i : Nat) (h : i < l.length) : l.take (i + 1) = l.take i ++ [rd l (i : Int)] := by
  rw [List.take_succ_eq_append_getElem h, rd_nat l i h]
theorem take_set_succ {α : Type} (l : List α) (i : Nat) (h : i < l.length) (v : α) : (l.set i v).take (i + 1) = l.take i ++ [v] := by
  rw [List.take_succ_eq_append_getElem (by simpa using h)]
  rw [List.getElem_set_self, List.take_set_of_le (Nat.le_refl i)]
theorem round {k d : Nat} (h : d < k) : ∃ m, k = m + 1 := ⟨k - 1, by omega⟩
def marks (a : Int) : Nat → List Int
  | 0 => []
  | n + 1 => a :: marks (a + 1) n
theorem marks_length (a : Int) (n : Nat) : (marks a n).length = n := by
  induction n generalizing a with
  | zero => rfl
  | succ n ih => simp [marks, ih]
theorem marks_rd (n : Nat) : ∀ (a : Int) (i : Nat), i < n → rd (marks a n) (i : Int) = a + i := by
  induction n with
  | zero => intro a i h; omega
  | succ n ih =>
    intro a i h
    cases i with
    | zero => simp [marks, rd]
    | succ i =>
      have := ih (a + 1) i (by omega)
      simp only [marks, rd, Int.toNat_natCast, List.getD_cons_succ] at this ⊢
      rw [this]
      push_cast
      omega
theorem marks_snoc (n : Nat) : ∀ (a : Int), marks a (n + 1) = marks a n ++ [a + n] := by
  induction n with
  | zero => intro a; simp [marks]
  | succ n ih =>
    intro a
    rw [marks, ih (a + 1)]
    simp only [marks, List.cons_append, List.cons.injEq, true_and]
    congr 2
    push_cast
    omega

end Go.Proofs.Ytpicfpdpcbncmaa.Pure

namespace Go.Proofs.Ytpicfpdpcbncmaa.Pure
open Go.RowKit Go.Proofs.Ytpicfpdpcbncmaa.P Go.Proofs.YtpicfpdpcbncmaaW.PrintWords Go.Proofs.YtpicfpdpcbncmaaW.PrintLast Go.Proofs.Ytpicfpdpcbncmaa.Opn
set_option linter.unusedVariables false
set_option linter.unusedSimpArgs false

theorem toIntS_l0 (x : List Int) (hn : x.length ≤ 1048576) : ∀ (d k i : Nat) (y : List Int), i + d = x.length → d < k → y.length = x.length → y.take i = x.take i → laws_toIntS.l0 k x y (i : Int) = some x := by
  intro d
  induction d with
  | zero =>
    intro k i y hi hk hy ht
    obtain ⟨k, rfl⟩ := round hk
    simp only [laws_toIntS.l0]
    rw [if_neg (by omega)]
    have : i = x.length := by omega
    subst this
    rw [List.take_length, ← hy, List.take_length] at ht
    rw [ht]
  | succ d ih =>
    intro k i y hi hk hy ht
    obtain ⟨k, rfl⟩ := round hk
    simp only [laws_toIntS.l0]
    rw [if_pos (by omega), if_pos (by omega), if_pos (by omega), wrap_id (by omega) (by omega), Int.toNat_natCast]
    have := ih k (i + 1) (y.set i (rd x i)) (by omega) (by omega) (by simpa using hy) (by rw [take_set_succ _ _ (by omega), ht, take_rd _ _ (by omega)])
    simpa using this
theorem toIntS (x : List Int) (hn : x.length ≤ 1048576) (k : Nat) (hk : x.length < k) : laws_toIntS.f k x = some x := by
  unfold laws_toIntS.f
  rw [if_pos (by omega), if_pos (by omega), Int.toNat_natCast]
  exact toIntS_l0 x hn x.length k 0 _ (by omega) hk (by simp) (by simp)
theorem eqIntS_l0 (x y : List Int) (hn : x.length ≤ 1048576) (he : x.length = y.length) : ∀ (d k i : Nat), i + d = x.length → d < k → x.take i = y.take i → laws_eqIntS.l0 k x y (i : Int) = some (decide (x = y)) := by
  intro d
  induction d with
  | zero =>
    intro k i hi hk ht
    obtain ⟨k, rfl⟩ := round hk
    simp only [laws_eqIntS.l0]
    rw [if_neg (by omega)]
    have : i = x.length := by omega
    subst this
    rw [List.take_length, he, List.take_length] at ht
    simp [ht]
  | succ d ih =>
    intro k i hi hk ht
    obtain ⟨k, rfl⟩ := round hk
    simp only [laws_eqIntS.l0]
    rw [if_pos (by omega), if_pos (by omega), if_pos (by omega)]
    by_cases hc : rd x (i : Int) = rd y (i : Int)
    · rw [if_pos hc, wrap_id (by omega) (by omega)]
      have := ih k (i + 1) (by omega) (by omega) (by rw [take_rd _ _ (by omega), take_rd _ _ (by omega), ht, hc])
      simpa using this
    · rw [if_neg hc]
      have : x ≠ y := by rintro rfl; exact hc rfl
      simp [this]
theorem eqIntS (x y : List Int) (hn : x.length ≤ 1048576) (k : Nat) (hk : x.length < k) : laws_eqIntS.f k x y = some (decide (x = y)) := by
  unfold laws_eqIntS.f
  by_cases he : x.length = y.length
  · rw [if_pos (by omega)]
    exact eqIntS_l0 x y hn he x.length k 0 (by omega) hk (by simp)
  · rw [if_neg (by omega)]
    have : x ≠ y := by rintro rfl; exact he rfl
    simp [this]

end Go.Proofs.Ytpicfpdpcbncmaa.Pure

namespace Go.Proofs.Ytpicfpdpcbncmaa.Pure
open Go.RowKit Go.Proofs.Ytpicfpdpcbncmaa.P Go.Proofs.YtpicfpdpcbncmaaW.PrintWords Go.Proofs.YtpicfpdpcbncmaaW.PrintLast Go.Proofs.Ytpicfpdpcbncmaa.Opn
set_option linter.unusedVariables false
set_option linter.unusedSimpArgs false

theorem spec_in (a b c : Int) : spec_l1In.f a b c = some (decide (b ≤ a ∧ a ≤ c)) := by
  unfold spec_l1In.f
  by_cases h : a ≥ b
  · rw [if_pos h]
    by_cases h2 : a ≤ c
    · simp [h, h2]
    · simp [h2]
  · rw [if_neg h]
    have : ¬ b ≤ a := by omega
    simp [this]
theorem impl_in_ (a b c : Int) : impl_in.f a b c = some (decide (b ≤ a ∧ a ≤ c)) := spec_in a b c

end Go.Proofs.Ytpicfpdpcbncmaa.Pure

namespace Go.Proofs.Ytpicfpdpcbncmaa.Pure
open Go.RowKit Go.Proofs.Ytpicfpdpcbncmaa.P Go.Proofs.YtpicfpdpcbncmaaW.PrintWords Go.Proofs.YtpicfpdpcbncmaaW.PrintLast Go.Proofs.Ytpicfpdpcbncmaa.Opn
set_option linter.unusedVariables false
set_option linter.unusedSimpArgs false

theorem l1All_l0 (l : List Int) (lo hi : Int) (hn : l.length ≤ 1048576) : ∀ (d k i : Nat), i + d = l.length → d < k → spec_l1All.l0 k lo hi l (l.length : Int) (i : Int) = some ((l.drop i).all fun x => decide (lo ≤ x ∧ x ≤ hi)) := by
  intro d
  induction d with
  | zero =>
    intro k i h hk
    obtain ⟨k, rfl⟩ := round hk
    simp only [spec_l1All.l0]
    rw [if_neg (by omega), List.drop_of_length_le (by omega)]
    rfl
  | succ d ih =>
    intro k i h hk
    obtain ⟨k, rfl⟩ := round hk
    simp only [spec_l1All.l0]
    rw [if_pos (by omega), if_pos (by omega), if_pos (by omega), spec_in, Option.bind_some, drop_rd l i (by omega), List.all_cons]
    by_cases hc : lo ≤ rd l (i : Int) ∧ rd l (i : Int) ≤ hi
    · rw [if_pos (by simpa using hc), wrap_id (by omega) (by omega)]
      have := ih k (i + 1) (by omega) (by omega)
      simp only [hc, and_self, decide_true, Bool.true_and]
      simpa using this
    · rw [if_neg (by simpa using hc)]
      simp [hc]
theorem l1All (l : List Int) (lo hi : Int) (hn : l.length ≤ 1048576) (k : Nat) (hk : l.length < k) : spec_l1All.f k l lo hi = some (l.all fun x => decide (lo ≤ x ∧ x ≤ hi)) := by
  unfold spec_l1All.f
  have := l1All_l0 l lo hi hn l.length k 0 (by omega) hk
  simpa using this

end Go.Proofs.Ytpicfpdpcbncmaa.Pure

namespace Go.Proofs.Ytpicfpdpcbncmaa.Pure
open Go.RowKit Go.Proofs.Ytpicfpdpcbncmaa.P Go.Proofs.YtpicfpdpcbncmaaW.PrintWords Go.Proofs.YtpicfpdpcbncmaaW.PrintLast Go.Proofs.Ytpicfpdpcbncmaa.Opn
set_option linter.unusedVariables false
set_option linter.unusedSimpArgs false

def goodC (l : List Int) (a : Int) : Bool := decide ((l.length : Int) ≤ 8) && (l.all (fun x => decide (1 ≤ x ∧ x ≤ 50)) && decide (1 ≤ a ∧ a ≤ 4))
theorem any_inR (l : List Int) (lo hi : Int) : (!l.any (fun x => !inR lo hi x)) = l.all (fun x => decide (lo ≤ x ∧ x ≤ hi)) := by
  rw [List.all_eq_not_any_not]
  rfl
theorem impl_goodC (l : List Int) (a : Int) : impl_GoodChores.f l a = some (goodC l a) := by
  unfold impl_GoodChores.f goodC
  rw [any_inR]
  rfl
theorem spec_goodC (l : List Int) (a : Int) (hn : l.length ≤ 1048576) (k : Nat) (hk : l.length < k) : spec_GoodChores.f k l a = some (goodC l a) := by
  unfold spec_GoodChores.f goodC
  rw [l1All l 1 50 hn k hk]
  by_cases h : (l.length : Int) ≤ 8
  · rw [if_pos h]
    simp only [Option.bind_some, spec_in, h, decide_true, Bool.true_and]
    cases l.all (fun x => decide (1 ≤ x ∧ x ≤ 50)) <;> simp
  · rw [if_neg h]
    simp only [h, decide_false, Bool.false_and]
theorem goodC_fact {l : List Int} {a : Int} (h : goodC l a = true) : l.length ≤ 8 ∧ (∀ x ∈ l, 1 ≤ x ∧ x ≤ 50) ∧ 1 ≤ a ∧ a ≤ 4 := by
  unfold goodC at h
  simp only [Bool.and_eq_true, decide_eq_true_eq, List.all_eq_true] at h
  exact ⟨by omega, h.2.1, h.2.2⟩
theorem most_eq (a b : Int) : spec_l1Most.f a b = some (mx b a) := by
  unfold spec_l1Most.f mx
  by_cases h : a > b
  · rw [if_pos h, if_pos (by omega)]
  · rw [if_neg h, if_neg (by omega)]
theorem rd_mem (l : List Int) (i : Nat) (h : i < l.length) : rd l (i : Int) ∈ l := by
  rw [rd_nat l i h]
  exact List.getElem_mem h

end Go.Proofs.Ytpicfpdpcbncmaa.Pure

namespace Go.Proofs.Ytpicfpdpcbncmaa.Pure
open Go.RowKit Go.Proofs.Ytpicfpdpcbncmaa.P Go.Proofs.YtpicfpdpcbncmaaW.PrintWords Go.Proofs.YtpicfpdpcbncmaaW.PrintLast Go.Proofs.Ytpicfpdpcbncmaa.Opn
set_option linter.unusedVariables false
set_option linter.unusedSimpArgs false

/-! How much each hand has (the same loop as the program's loads, told in plain Lean). -/
def impl_loads.l0 : Nat → List Int → List Int → List Int → Int → Int → Option (List Int)
  | 0, _, _, _, _, _ => none
  | k + 1, x2, x7, x12, x13, x14 => if x14 < x13 then (if 0 ≤ x14 then (if x14 < (x12.length : Int) then (if x14 < (x2.length : Int) then (if 0 ≤ (rd x2 x14) then (if (rd x2 x14) < (x7.length : Int) then (impl_loads.l0 k x2 (x7.set ((rd x2 x14) : Int).toNat (wrap64 ((rd x7 (rd x2 x14)) + (rd x12 x14)))) x12 x13 (wrap64 (x14 + 1))) else (none)) else (none)) else (none)) else (none)) else (none)) else (some x7)
def impl_loads.f (k : Nat) (l0 : List Int) (a1 : Int) (l2 : List Int) : Option (List Int) := if 0 ≤ a1 then (if (a1 : Int).toNat ≤ 35184372088832 then (impl_loads.l0 k l2 (List.replicate (a1 : Int).toNat 0) l0 (l0.length : Int) 0) else (none)) else (none)
theorem mx_le (a b : Int) : mx a b = if a ≤ b then b else a := by unfold mx; split <;> split <;> omega
theorem foldl_mx_mem (l : List Int) : ∀ (b : Int), l.foldl (fun m y => mx m y) b ∈ b :: l ∧ ∀ z ∈ b :: l, z ≤ l.foldl (fun m y => mx m y) b := by
  induction l with
  | nil => intro b; simp
  | cons x l ih =>
    intro b
    have h := ih (mx b x)
    have e := mx_le b x
    simp only [List.foldl_cons, List.mem_cons, forall_eq_or_imp] at h ⊢
    refine ⟨?_, ?_, ?_, h.2.2⟩
    · split at e <;> rcases h.1 with h1 | h1 <;> simp_all
    · split at e <;> omega
    · split at e <;> omega
theorem max_of (y : List Int) (m : Int) (h0 : m ∈ y) (h1 : ∀ z ∈ y, z ≤ m) : slices_Max_int_int.f y = some m := by
  unfold slices_Max_int_int.f
  cases y with
  | nil => simp at h0
  | cons b l =>
    rw [if_neg (by simp)]
    have h := foldl_mx_mem l b
    have e : rd (b :: l) 0 = b := rfl
    rw [e]
    simp only [List.drop_succ_cons, List.drop_zero]
    have a1 := h1 _ h.1
    have a2 := h.2 _ h0
    congr 1
    omega
theorem mem_set_ne (y : List Int) (c : Nat) (v m : Int) (hc : c < y.length) (h : m ∈ y) (hne : m ≠ y[c]) : m ∈ y.set c v := by
  obtain ⟨j, hj, e⟩ := List.getElem_of_mem h
  have : c ≠ j := by rintro rfl; exact hne e.symm
  have e2 : (y.set c v)[j]'(by simpa using hj) = m := by rw [List.getElem_set_ne this, e]
  rw [← e2]
  exact List.getElem_mem _
theorem spanSim (l c : List Int) (hl : l.length ≤ 8) (hv : ∀ x ∈ l, 1 ≤ x ∧ x ≤ 50) (hc : c.length = l.length) (n : Nat) (hn : ∀ x ∈ c, 0 ≤ x ∧ x < n) :
    ∀ (d k k' i : Nat) (y : List Int) (m : Int), i + d = l.length → d < k → d < k' → y.length = n → (∀ z ∈ y, 0 ≤ z ∧ z ≤ 50 * i ∧ z ≤ m) → m ∈ y →
      ∃ r y', spec_l14Span.l0 k l y m c (c.length : Int) (i : Int) = some r ∧ impl_loads.l0 k' c y l (l.length : Int) (i : Int) = some y' ∧ r ∈ y' ∧ ∀ z ∈ y', z ≤ r := by
  intro d
  induction d with
  | zero =>
    intro k k' i y m hi hk hk' hy hb hm
    obtain ⟨k, rfl⟩ := round hk
    obtain ⟨k', rfl⟩ := round hk'
    refine ⟨m, y, ?_, ?_, hm, fun z h => (hb z h).2.2⟩
    · simp only [spec_l14Span.l0]
      rw [if_neg (by omega)]
    · simp only [impl_loads.l0]
      rw [if_neg (by omega)]
  | succ d ih =>
    intro k k' i y m hi hk hk' hy hb hm
    obtain ⟨k, rfl⟩ := round hk
    obtain ⟨k', rfl⟩ := round hk'
    have hx := hv _ (rd_mem l i (by omega))
    have hq := hn _ (rd_mem c i (by omega))
    obtain ⟨q, hq'⟩ : ∃ q : Nat, rd c (i : Int) = (q : Int) := ⟨(rd c (i : Int)).toNat, by omega⟩
    have hqn : q < y.length := by omega
    have hz := hb _ (rd_mem y q hqn)
    simp only [spec_l14Span.l0, impl_loads.l0, hq']
    rw [if_pos (by omega), if_pos (by omega), if_pos (by omega), if_pos (by omega), if_pos (by omega), if_pos (by omega), most_eq, Option.bind_some,
      if_pos (by omega), if_pos (by omega), if_pos (by omega), if_pos (by omega), if_pos (by omega), if_pos (by omega),
      wrap_id (x := (i : Int) + 1) (by omega) (by omega), wrap_id (x := rd y (q : Int) + rd l (i : Int)) (by omega) (by omega)]
    have e := mx_le (rd y (q : Int) + rd l (i : Int)) m
    have := ih k k' (i + 1) (y.set q (rd y (q : Int) + rd l (i : Int))) (mx (rd y (q : Int) + rd l (i : Int)) m) (by omega) (by omega) (by omega) (by simpa using hy)
      (by
        intro z hz'
        rcases List.mem_or_eq_of_mem_set hz' with h | h
        · have := hb z h
          split at e <;> (push_cast; omega)
        · subst h
          split at e <;> (push_cast; omega))
      (by
        rw [e]
        split
        · rename_i hle
          refine mem_set_ne y q _ m hqn hm ?_
          rw [← rd_nat y q hqn]
          omega
        · exact List.mem_set hqn _)
    simpa using this
theorem spanBoth (l c : List Int) (a : Int) (hl : l.length ≤ 8) (hv : ∀ x ∈ l, 1 ≤ x ∧ x ≤ 50) (ha : 1 ≤ a ∧ a ≤ 4) (hc : c.length = l.length) (hn : ∀ x ∈ c, 0 ≤ x ∧ x ≤ a - 1) (k k' : Nat) (hk : l.length < k) (hk' : l.length < k') :
    ∃ r, spec_l14Span.f k l a c = some r ∧ ∃ y, impl_loads.f k' l a c = some y ∧ slices_Max_int_int.f y = some r := by
  have := spanSim l c hl hv hc a.toNat (fun x h => by have := hn x h; omega) l.length k k' 0 (List.replicate a.toNat 0) 0 (by omega) hk hk' (by simp)
    (by intro z h; have := List.eq_of_mem_replicate h; omega) (by simp; omega)
  obtain ⟨r, y, h1, h2, h3, h4⟩ := this
  refine ⟨r, ?_, y, ?_, max_of y r h3 h4⟩
  · unfold spec_l14Span.f
    rw [if_pos (by omega), if_pos (by omega)]
    exact h1
  · unfold impl_loads.f
    rw [if_pos (by omega), if_pos (by omega)]
    exact h2

end Go.Proofs.Ytpicfpdpcbncmaa.Pure

namespace Go.Proofs.Ytpicfpdpcbncmaa.Pure
open Go.RowKit Go.Proofs.Ytpicfpdpcbncmaa.P Go.Proofs.YtpicfpdpcbncmaaW.PrintWords Go.Proofs.YtpicfpdpcbncmaaW.PrintLast Go.Proofs.Ytpicfpdpcbncmaa.Opn
set_option linter.unusedVariables false
set_option linter.unusedSimpArgs false

theorem markIntS_l0 (n : Nat) (a : Int) (ha : 0 ≤ a) (hb : a + n ≤ 1000000000) : ∀ (d k i : Nat) (y : List Int), i + d = n → d < k → y.length = n → y.take i = marks a i → laws_markIntS.l0 k y (a + i) (i : Int) = some (a + n, marks a n) := by
  intro d
  induction d with
  | zero =>
    intro k i y hi hk hy ht
    obtain ⟨k, rfl⟩ := round hk
    simp only [laws_markIntS.l0]
    rw [if_neg (by omega)]
    have : i = n := by omega
    subst this
    rw [← hy, List.take_length] at ht
    rw [ht, hy]
  | succ d ih =>
    intro k i y hi hk hy ht
    obtain ⟨k, rfl⟩ := round hk
    simp only [laws_markIntS.l0]
    rw [if_pos (by omega), if_pos (by omega), wrap_id (by omega) (by omega), wrap_id (by omega) (by omega), Int.toNat_natCast]
    have := ih k (i + 1) (y.set i (a + i)) (by omega) (by omega) (by simpa using hy) (by rw [take_set_succ _ _ (by omega), ht, marks_snoc])
    rw [show a + (i : Int) + 1 = a + ((i + 1 : Nat) : Int) by push_cast; omega]
    simpa using this
theorem markIntS (y : List Int) (a : Int) (ha : 0 ≤ a) (hb : a + y.length ≤ 1000000000) (k : Nat) (hk : y.length < k) : laws_markIntS.f k y a = some (a + y.length, marks a y.length) := by
  unfold laws_markIntS.f
  have := markIntS_l0 y.length a ha hb y.length k 0 y (by omega) hk rfl (by simp [marks])
  simpa using this
theorem heldIntS_l0 (n : Nat) (a : Int) (ha : 0 ≤ a) (hb : a + n ≤ 1000000000) : ∀ (d k i : Nat), i + d = n → d < k → laws_heldIntS.l0 k (marks a n) (a + i) (i : Int) = some (a + n) := by
  intro d
  induction d with
  | zero =>
    intro k i hi hk
    obtain ⟨k, rfl⟩ := round hk
    simp only [laws_heldIntS.l0]
    rw [if_neg (by rw [marks_length]; omega)]
    have : i = n := by omega
    subst this
    rfl
  | succ d ih =>
    intro k i hi hk
    obtain ⟨k, rfl⟩ := round hk
    simp only [laws_heldIntS.l0]
    rw [if_pos (by rw [marks_length]; omega), if_pos (by omega), marks_rd n a i (by omega), if_pos rfl, wrap_id (by omega) (by omega), wrap_id (by omega) (by omega)]
    have := ih k (i + 1) (by omega) (by omega)
    rw [show a + (i : Int) + 1 = a + ((i + 1 : Nat) : Int) by push_cast; omega]
    simpa using this
theorem heldIntS (n : Nat) (a : Int) (ha : 0 ≤ a) (hb : a + n ≤ 1000000000) (k : Nat) (hk : n < k) : laws_heldIntS.f k (marks a n) a = some (a + n) := by
  unfold laws_heldIntS.f
  have := heldIntS_l0 n a ha hb n k 0 (by omega) hk
  simpa using this

end Go.Proofs.Ytpicfpdpcbncmaa.Pure

namespace Go.Proofs.Ytpicfpdpcbncmaa.Pure
open Go.RowKit Go.Proofs.Ytpicfpdpcbncmaa.P Go.Proofs.YtpicfpdpcbncmaaW.PrintWords Go.Proofs.YtpicfpdpcbncmaaW.PrintLast Go.Proofs.Ytpicfpdpcbncmaa.Opn
set_option linter.unusedVariables false
set_option linter.unusedSimpArgs false

def FM (y : List Int) (j : Nat) : Prop := j < y.length ∧ (∀ t : Nat, t < y.length → rd y (j : Int) ≤ rd y (t : Int)) ∧ ∀ t : Nat, t < j → rd y (j : Int) < rd y (t : Int)
theorem FM_unique {y : List Int} {i j : Nat} (hi : FM y i) (hj : FM y j) : i = j := by
  rcases Nat.lt_trichotomy i j with h | h | h
  · have a := hi.2.1 j hj.1
    have b := hj.2.2 i h
    omega
  · exact h
  · have a := hj.2.1 i hi.1
    have b := hi.2.2 j h
    omega
theorem index_first (l : List Int) (a : Int) (hn : l.length ≤ 1048576) : ∀ (d k i : Nat), i + d = l.length → d < k → (∃ t : Nat, i ≤ t ∧ t < l.length ∧ rd l (t : Int) = a) → ∃ j : Nat, slices_Index_int_int.l0 k l a (l.length : Int) (i : Int) = some (j : Int) ∧ i ≤ j ∧ j < l.length ∧ rd l (j : Int) = a ∧ ∀ t : Nat, i ≤ t → t < j → rd l (t : Int) ≠ a := by
  intro d
  induction d with
  | zero =>
    intro k i h hk ht
    obtain ⟨t, h1, h2, _⟩ := ht
    omega
  | succ d ih =>
    intro k i h hk ht
    obtain ⟨k, rfl⟩ := round hk
    simp only [slices_Index_int_int.l0]
    rw [if_pos (by omega), if_pos (by omega), if_pos (by omega)]
    by_cases hc : a = rd l (i : Int)
    · rw [if_pos hc]
      exact ⟨i, rfl, by omega, by omega, hc.symm, fun t h1 h2 => by omega⟩
    · rw [if_neg hc, wrap_id (by omega) (by omega)]
      obtain ⟨t, h1, h2, h3⟩ := ht
      have hne : t ≠ i := by rintro rfl; exact hc h3.symm
      obtain ⟨j, g1, g2, g3, g4, g5⟩ := ih k (i + 1) (by omega) (by omega) ⟨t, by omega, h2, h3⟩
      refine ⟨j, by simpa using g1, by omega, g3, g4, fun s s1 s2 => ?_⟩
      by_cases hs : s = i
      · subst hs
        exact fun e => hc e.symm
      · exact g5 s (by omega) s2
theorem mn_le (a b : Int) : mn a b = if b ≤ a then b else a := by unfold mn; split <;> split <;> omega
theorem foldl_mn_mem (l : List Int) : ∀ (b : Int), l.foldl (fun m y => mn m y) b ∈ b :: l ∧ ∀ z ∈ b :: l, l.foldl (fun m y => mn m y) b ≤ z := by
  induction l with
  | nil => intro b; simp
  | cons x l ih =>
    intro b
    have h := ih (mn b x)
    have e := mn_le b x
    simp only [List.foldl_cons, List.mem_cons, forall_eq_or_imp] at h ⊢
    refine ⟨?_, ?_, ?_, h.2.2⟩
    · split at e <;> rcases h.1 with h1 | h1 <;> simp_all
    · split at e <;> omega
    · split at e <;> omega
/-- What impl picks is the first least load. -/
theorem pick (y : List Int) (hy : 0 < y.length) (hn : y.length ≤ 1048576) (k : Nat) (hk : y.length < k) : ∃ v j, slices_Min_int_int.f y = some v ∧ slices_Index_int_int.f k y v = some ((j : Nat) : Int) ∧ FM y j := by
  have hm : ∃ v, slices_Min_int_int.f y = some v ∧ v ∈ y ∧ ∀ z ∈ y, v ≤ z := by
    cases y with
    | nil => simp at hy
    | cons b l => exact ⟨_, by unfold slices_Min_int_int.f; rw [if_neg (by simp)]; rfl, foldl_mn_mem l b⟩
  obtain ⟨v, h1, h2, h3⟩ := hm
  obtain ⟨t, ht, e⟩ := List.getElem_of_mem h2
  obtain ⟨j, g1, g2, g3, g4, g5⟩ := index_first y v hn y.length k 0 (by omega) hk ⟨t, by omega, ht, by rw [rd_nat y t ht, e]⟩
  refine ⟨v, j, h1, g1, g3, fun s hs => ?_, fun s hs => ?_⟩
  · rw [g4]
    exact h3 _ (rd_mem y s hs)
  · have := g5 s (by omega) hs
    have := h3 _ (rd_mem y s (by omega))
    rw [g4]
    omega
theorem give_l1 (l y c o : List Int) (q n i : Int) (hn : y.length ≤ 1048576) : ∀ (d k t j : Nat), t + d = y.length → j < y.length → (∀ s : Nat, s < t → rd y (j : Int) ≤ rd y (s : Int)) → (∀ s : Nat, s < j → rd y (j : Int) < rd y (s : Int)) → ∃ j', FM y j' ∧ spec_l14Give.l1 (k + d) l y c q (j : Int) o n i (y.length : Int) (t : Int) = spec_l14Give.l1 k l y c q (j' : Int) o n i (y.length : Int) (y.length : Int) := by
  intro d
  induction d with
  | zero =>
    intro k t j h hj h1 h2
    have : t = y.length := by omega
    subst this
    exact ⟨j, ⟨hj, h1, h2⟩, rfl⟩
  | succ d ih =>
    intro k t j h hj h1 h2
    have e : k + (d + 1) = (k + d) + 1 := by omega
    rw [e]
    by_cases hc : rd y (t : Int) < rd y (j : Int)
    · obtain ⟨j', g1, g2⟩ := ih k (t + 1) t (by omega) (by omega) (fun s hs => by
        by_cases e : s = t
        · subst e; omega
        · have := h1 s (by omega); omega) (fun s hs => by have := h1 s hs; omega)
      refine ⟨j', g1, ?_⟩
      rw [← g2]
      rw [spec_l14Give.l1]
      rw [if_pos (by omega), if_pos (by omega), if_pos (by omega), if_pos (by omega), if_pos (by omega), if_pos hc, wrap_id (x := (t : Int) + 1) (by omega) (by omega)]
      rfl
    · obtain ⟨j', g1, g2⟩ := ih k (t + 1) j (by omega) (by omega) (fun s hs => by
        by_cases e : s = t
        · subst e; omega
        · exact h1 s (by omega)) h2
      refine ⟨j', g1, ?_⟩
      rw [← g2]
      rw [spec_l14Give.l1]
      rw [if_pos (by omega), if_pos (by omega), if_pos (by omega), if_pos (by omega), if_pos (by omega), if_neg hc, wrap_id (x := (t : Int) + 1) (by omega) (by omega)]
      rfl
def ldn (l c o : List Int) (h : Int) : Int := o.foldr (fun i s => (if rd c i = h then rd l i else 0) + s) 0
theorem ldn_append (l c o p : List Int) (h : Int) : ldn l c (o ++ p) h = ldn l c o h + ldn l c p h := by
  induction o with
  | nil => simp [ldn]
  | cons x o ih =>
    unfold ldn at ih ⊢
    simp only [List.cons_append, List.foldr_cons, ih]
    omega
theorem ldn_perm (l c : List Int) (h : Int) {o p : List Int} (hp : List.Perm o p) : ldn l c o h = ldn l c p h := by
  induction hp with
  | nil => rfl
  | cons x _ ih => unfold ldn at ih ⊢; simp only [List.foldr_cons, ih]
  | swap x y o => unfold ldn; simp only [List.foldr_cons]; omega
  | trans _ _ h1 h2 => exact h1.trans h2
theorem rd_set (l : List Int) (i : Nat) (v : Int) (h : i < l.length) (j : Nat) (hj : j < l.length) : rd (l.set i v) (j : Int) = if j = i then v else rd l (j : Int) := by
  rw [rd_nat _ _ (by simpa using hj), rd_nat l j hj, List.getElem_set]
  by_cases e : i = j
  · simp [e]
  · rw [if_neg e, if_neg (fun e' => e e'.symm)]
theorem ldn_set (l c o : List Int) (q : Nat) (v h : Int) (hq : q < c.length) (ho : ∀ x ∈ o, 0 ≤ x ∧ x < (c.length : Int) ∧ x ≠ (q : Int)) : ldn l (c.set q v) o h = ldn l c o h := by
  induction o with
  | nil => rfl
  | cons x o ih =>
    have hx := ho x (by simp)
    obtain ⟨j, rfl⟩ : ∃ j : Nat, x = (j : Int) := ⟨x.toNat, by omega⟩
    have := ih (fun z hz => ho z (by simp [hz]))
    unfold ldn at this ⊢
    simp only [List.foldr_cons, this]
    rw [rd_set c q v hq j (by omega), if_neg (show ¬ j = q by omega)]
theorem ldn_one (l c : List Int) (x h : Int) : ldn l c [x] h = if rd c x = h then rd l x else 0 := by simp [ldn]
theorem mem_marks (n : Nat) : ∀ (a x : Int), x ∈ marks a n ↔ a ≤ x ∧ x < a + n := by
  induction n with
  | zero => intro a x; simp [marks]
  | succ n ih =>
    intro a x
    simp only [marks, List.mem_cons, ih]
    push_cast
    omega
theorem nodup_marks (n : Nat) : ∀ (a : Int), (marks a n).Nodup := by
  induction n with
  | zero => intro a; simp [marks]
  | succ n ih =>
    intro a
    simp only [marks, List.nodup_cons, mem_marks]
    exact ⟨by omega, ih _⟩
/-- The loads that impl.loads sums are ldn along 0..n-1. -/
theorem loads_l0 (l c : List Int) (hl : l.length ≤ 8) (hv : ∀ x ∈ l, 1 ≤ x ∧ x ≤ 50) (hc : c.length = l.length) (n : Nat) (hn : ∀ x ∈ c, 0 ≤ x ∧ x < n) :
    ∀ (d k i : Nat) (y : List Int), i + d = l.length → d < k → y.length = n → (∀ z ∈ y, 0 ≤ z ∧ z ≤ 50 * i) → (∀ h : Nat, h < n → rd y (h : Int) = ldn l c (marks 0 i) h) →
      ∃ y', impl_loads.l0 k c y l (l.length : Int) (i : Int) = some y' ∧ y'.length = n ∧ ∀ h : Nat, h < n → rd y' (h : Int) = ldn l c (marks 0 l.length) h := by
  intro d
  induction d with
  | zero =>
    intro k i y hi hk hy hb hr
    obtain ⟨k, rfl⟩ := round hk
    refine ⟨y, ?_, hy, ?_⟩
    · simp only [impl_loads.l0]
      rw [if_neg (by omega)]
    · have : i = l.length := by omega
      subst this
      exact hr
  | succ d ih =>
    intro k i y hi hk hy hb hr
    obtain ⟨k, rfl⟩ := round hk
    have hx := hv _ (rd_mem l i (by omega))
    have hq := hn _ (rd_mem c i (by omega))
    obtain ⟨q, hq'⟩ : ∃ q : Nat, rd c (i : Int) = (q : Int) := ⟨(rd c (i : Int)).toNat, by omega⟩
    have hqn : q < y.length := by omega
    have hz := hb _ (rd_mem y q hqn)
    simp only [impl_loads.l0, hq']
    rw [if_pos (by omega), if_pos (by omega), if_pos (by omega), if_pos (by omega), if_pos (by omega), if_pos (by omega),
      wrap_id (x := (i : Int) + 1) (by omega) (by omega), wrap_id (x := rd y (q : Int) + rd l (i : Int)) (by omega) (by omega)]
    have := ih k (i + 1) (y.set q (rd y (q : Int) + rd l (i : Int))) (by omega) (by omega) (by simpa using hy)
      (by
        intro z hz'
        rcases List.mem_or_eq_of_mem_set hz' with h | h
        · have := hb z h
          push_cast; omega
        · subst h
          push_cast; omega)
      (by
        intro h hh
        rw [marks_snoc, ldn_append, ldn_one, rd_set y q _ hqn h (by omega), Int.zero_add, hq']
        have := hr h hh
        by_cases e : h = q
        · subst e
          rw [if_pos rfl, if_pos rfl, this]
        · rw [if_neg e, if_neg (by omega), this]
          omega)
    simpa using this
theorem loads_ldn (l c : List Int) (a : Int) (hl : l.length ≤ 8) (hv : ∀ x ∈ l, 1 ≤ x ∧ x ≤ 50) (ha : 1 ≤ a ∧ a ≤ 4) (hc : c.length = l.length) (hn : ∀ x ∈ c, 0 ≤ x ∧ x ≤ a - 1) (k : Nat) (hk : l.length < k) :
    ∃ y', impl_loads.f k l a c = some y' ∧ y'.length = a.toNat ∧ ∀ h : Nat, h < a.toNat → rd y' (h : Int) = ldn l c (marks 0 l.length) h := by
  have := loads_l0 l c hl hv hc a.toNat (fun x h => by have := hn x h; omega) l.length k 0 (List.replicate a.toNat 0) (by omega) hk (by simp)
    (by intro z h; have := List.eq_of_mem_replicate h; omega)
    (by intro h hh; rw [rd_nat _ _ (by simpa using hh)]; simp [ldn, marks])
  unfold impl_loads.f
  rw [if_pos (by omega), if_pos (by omega)]
  exact this
theorem give_sim (l o : List Int) (hl : l.length ≤ 8) (hv : ∀ x ∈ l, 1 ≤ x ∧ x ≤ 50) (n : Nat) (hn : 1 ≤ n ∧ n ≤ 4) (ho : o.length = l.length) (hb : ∀ x ∈ o, 0 ≤ x ∧ x < (l.length : Int)) (hd : o.Nodup) :
    ∀ (d k k' i : Nat) (y c : List Int), i + d = o.length → d * (n + 2) < k → d + n < k' → y.length = n → c.length = l.length → (∀ z ∈ y, 0 ≤ z ∧ z ≤ 50 * i) → (∀ z ∈ c, 0 ≤ z ∧ z < (n : Int)) → (∀ h : Nat, h < n → rd y (h : Int) = ldn l c (o.take i) h) →
      ∃ c' y', spec_l14Give.l0 k l y c o (o.length : Int) (i : Int) = some c' ∧ impl_give.l0 k' l c y o (o.length : Int) (i : Int) = (slices_Max_int_int.f y').bind (fun m => some (c', m, true)) ∧ c'.length = l.length ∧ y'.length = n ∧ (∀ z ∈ c', 0 ≤ z ∧ z < (n : Int)) ∧ (∀ h : Nat, h < n → rd y' (h : Int) = ldn l c' o h) := by
  intro d
  induction d with
  | zero =>
    intro k k' i y c hi hk hk' hy hc hb1 hb2 hr
    obtain ⟨k, rfl⟩ := round hk
    obtain ⟨k', rfl⟩ := round hk'
    refine ⟨c, y, ?_, ?_, hc, hy, hb2, ?_⟩
    · rw [spec_l14Give.l0, if_neg (by omega)]
    · rw [impl_give.l0, if_neg (by omega)]
    · have : i = o.length := by omega
      subst this
      rw [List.take_length] at hr
      exact hr
  | succ d ih =>
    intro k k' i y c hi hk hk' hy hc hb1 hb2 hr
    have hsm : (d + 1) * (n + 2) = d * (n + 2) + (n + 2) := by rw [Nat.add_mul, Nat.one_mul]
    obtain ⟨k, rfl⟩ : ∃ m, k = ((m + 1) + y.length) + 1 := ⟨k - (n + 2), by omega⟩
    obtain ⟨k', rfl⟩ := round hk'
    have hq := hb _ (rd_mem o i (by omega))
    obtain ⟨q, hq'⟩ : ∃ q : Nat, rd o (i : Int) = (q : Int) := ⟨(rd o (i : Int)).toNat, by omega⟩
    have hx := hv _ (rd_mem l q (by omega))
    obtain ⟨v, j, g1, g2, g3⟩ := pick y (by omega) (by omega) k' (by omega)
    obtain ⟨j', f1, f2⟩ := give_l1 l y c o (q : Int) (o.length : Int) (i : Int) (by omega) y.length (k + 1) 0 0 (by omega) (by omega) (fun s hs => by omega) (fun s hs => by omega)
    have hj := FM_unique g3 f1
    subst hj
    have hjn : j < y.length := g3.1
    have hz := hb1 _ (rd_mem y j hjn)
    rw [spec_l14Give.l0, impl_give.l0]
    rw [if_pos (by omega), if_pos (by omega), if_pos (by omega), if_pos (by omega), if_pos (by omega), if_pos (by omega), g1, Option.bind_some, g2, Option.bind_some, hq']
    have f2' : spec_l14Give.l1 (k + 1 + y.length) l y c (q : Int) 0 o (o.length : Int) (i : Int) (y.length : Int) 0 = _ := f2
    rw [f2', spec_l14Give.l1]
    rw [if_neg (by omega), if_pos (by omega), if_pos (by omega), if_pos (by omega), if_pos (by omega), if_pos (by omega),
      if_pos (by omega), if_pos (by omega), if_pos (by omega), if_pos (by omega), if_pos (by omega),
      wrap_id (x := (i : Int) + 1) (by omega) (by omega), wrap_id (x := rd y (j : Int) + rd l (q : Int)) (by omega) (by omega)]
    have hqt : (q : Int) ∉ o.take i := by
      intro hm
      obtain ⟨t, ht, e⟩ := List.getElem_of_mem hm
      have ht' : t < i := by simp at ht; omega
      rw [List.getElem_take, ← rd_nat o t (by omega), ← hq', rd_nat o t (by omega), rd_nat o i (by omega)] at e
      exact (List.pairwise_iff_getElem.1 hd) t i (by omega) (by omega) ht' e
    have := ih k k' (i + 1) (y.set j (rd y (j : Int) + rd l (q : Int))) (c.set q (j : Int)) (by omega) (by omega) (by omega) (by simpa using hy) (by simpa using hc)
      (by
        intro z hz'
        rcases List.mem_or_eq_of_mem_set hz' with h | h
        · have := hb1 z h
          push_cast; omega
        · subst h
          push_cast; omega)
      (by
        intro z hz'
        rcases List.mem_or_eq_of_mem_set hz' with h | h
        · exact hb2 z h
        · subst h
          omega)
      (by
        intro h hh
        rw [take_rd o i (by omega), ldn_append, ldn_one, hq', rd_set y j _ hjn h (by omega)]
        rw [ldn_set l c (o.take i) q _ h (by omega) (fun x hx => by
          have := hb x (List.mem_of_mem_take hx)
          refine ⟨by omega, by omega, ?_⟩
          rintro rfl
          exact hqt hx)]
        rw [rd_set c q _ (by omega) q (by omega), if_pos rfl]
        have := hr h hh
        by_cases e : h = j
        · subst e
          rw [if_pos rfl, if_pos rfl, this]
        · rw [if_neg e, if_neg (by omega), this]
          omega)
    simpa using this
theorem rd_ext (x y : List Int) (h : x.length = y.length) (he : ∀ i : Nat, i < x.length → rd x (i : Int) = rd y (i : Int)) : x = y := by
  refine List.ext_getElem h fun i h1 h2 => ?_
  have := he i h1
  rwa [rd_nat x i h1, rd_nat y i h2] at this
/-- Giving along any order that is a shuffle of 0..n-1: the same list of hands, and impl's span is the span of that list. -/
theorem give_eq (l o : List Int) (a : Int) (hl : l.length ≤ 8) (hv : ∀ x ∈ l, 1 ≤ x ∧ x ≤ 50) (ha : 1 ≤ a ∧ a ≤ 4) (hp : List.Perm o (marks 0 l.length)) (k k' k2 : Nat) (hk : 48 < k) (hk' : 12 < k') (hk2 : 8 < k2) :
    ∃ c r, spec_l14Give.f k l a o = some c ∧ spec_l14Span.f k2 l a c = some r ∧ impl_give.f k' l a o = some (c, r, true) ∧ c.length = l.length := by
  have ho : o.length = l.length := by rw [hp.length_eq, marks_length]
  have hb : ∀ x ∈ o, 0 ≤ x ∧ x < (l.length : Int) := by
    intro x hx
    have := (mem_marks _ _ _).1 ((hp.mem_iff).1 hx)
    omega
  have hd : o.Nodup := (hp.nodup_iff).2 (nodup_marks _ _)
  obtain ⟨n, rfl⟩ : ∃ n : Nat, a = (n : Int) := ⟨a.toNat, by omega⟩
  have hmul : o.length * (n + 2) ≤ 8 * 6 := Nat.mul_le_mul (by omega) (by omega)
  obtain ⟨c, y, h1, h2, h3, h4, h5, h6⟩ := give_sim l o hl hv n (by omega) ho hb hd o.length k k' 0 (List.replicate n 0) (List.replicate l.length 0) (by omega) (by omega) (by omega) (by simp) (by simp)
    (by intro z h; have := List.eq_of_mem_replicate h; omega) (by intro z h; have := List.eq_of_mem_replicate h; omega)
    (by intro h hh; rw [rd_nat _ _ (by simpa using hh)]; simp [ldn])
  obtain ⟨r, s1, y2, s2, s3⟩ := spanBoth l c (n : Int) hl hv ha h3 (fun x hx => by have := h5 x hx; omega) k2 k2 (by omega) (by omega)
  obtain ⟨y3, t1, t2, t3⟩ := loads_ldn l c (n : Int) hl hv ha h3 (fun x hx => by have := h5 x hx; omega) k2 (by omega)
  have e : y3 = y2 := by rw [t1] at s2; exact Option.some.inj s2
  subst e
  have hy : y = y3 := by
    refine rd_ext y y3 (by omega) fun i hi => ?_
    rw [h6 i (by omega), t3 i (by omega)]
    exact ldn_perm l c i hp
  subst hy
  refine ⟨c, r, ?_, s1, ?_, h3⟩
  · unfold spec_l14Give.f
    rw [if_pos (by omega), if_pos (by omega), if_pos (by omega), if_pos (by omega)]
    exact h1
  · unfold impl_give.f
    rw [if_pos (by omega), if_pos (by omega), if_pos (by omega), if_pos (by omega)]
    rw [s3] at h2
    exact h2

end Go.Proofs.Ytpicfpdpcbncmaa.Pure

namespace Go.Proofs.Ytpicfpdpcbncmaa.Pure
open Go.RowKit Go.Proofs.Ytpicfpdpcbncmaa.P Go.Proofs.YtpicfpdpcbncmaaW.PrintWords Go.Proofs.YtpicfpdpcbncmaaW.PrintLast Go.Proofs.Ytpicfpdpcbncmaa.Opn
set_option linter.unusedVariables false
set_option linter.unusedSimpArgs false

open Go.Sort
/-- Ahead: longer, or as long and told first. -/
def Ah (l : List Int) (x y : Int) : Prop := rd l y < rd l x ∨ (rd l x = rd l y ∧ x < y)
theorem Ah.trans {l : List Int} {x y z : Int} (h : Ah l x y) (k : Ah l y z) : Ah l x z := by
  unfold Ah at *
  omega
theorem Ah.asym {l : List Int} {x y : Int} (h : Ah l x y) (k : Ah l y x) : False := by
  unfold Ah at *
  omega
theorem perm_ah_eq {l : List Int} {a b : List Int} (hp : a.Perm b) (ha : a.Pairwise (Ah l)) (hb : b.Pairwise (Ah l)) : a = b :=
  hp.eq_of_pairwise (fun x y _ _ h k => (h.asym k).elim) ha hb
section
variable {α : Type} [Inhabited α]
theorem get_swp (d : Array α) (j : Nat) (hj : j + 1 < d.size) (p : Nat) (hp : p < d.size) : (swp d (j + 1) j)[p]! = if p = j then d[j + 1]! else if p = j + 1 then d[j]! else d[p]! := by
  unfold swp
  rw [getElem!_pos _ p (by simpa using hp), Array.getElem_setIfInBounds (by simpa using hp), Array.getElem_setIfInBounds hp]
  by_cases h1 : j = p
  · subst h1
    simp
  · have h1' : ¬ p = j := fun e => h1 e.symm
    by_cases h2 : j + 1 = p
    · have h2' : p = j + 1 := h2.symm
      rw [if_neg h1, if_neg h1', if_pos h2, if_pos h2']
    · have h2' : ¬ p = j + 1 := fun e => h2 e.symm
      rw [if_neg h1, if_neg h1', if_neg h2, if_neg h2', getElem!_pos d p hp]
end
/-- One element bubbles down to its place. v: what a place holds; n: the new one's own number. -/
theorem inner_ah {α : Type} [Inhabited α] (lt : α → α → Bool) (v : α → Int) (l : List Int) (hlt : ∀ x y, lt x y = true ↔ rd l (v y) < rd l (v x)) (i : Nat) (n : Int) : ∀ (j : Nat) (d : Array α), j ≤ i → i < d.size → v d[j]! = n →
    (∀ p, p ≤ i → p ≠ j → v d[p]! < n) → (∀ p q, p < q → q ≤ i → p ≠ j → q ≠ j → Ah l (v d[p]!) (v d[q]!)) → (∀ q, j < q → q ≤ i → Ah l n (v d[q]!)) →
    (insInner lt 0 j d).size = d.size ∧ (∀ p, i < p → p < d.size → (insInner lt 0 j d)[p]! = d[p]!) ∧ (∀ p q, p < q → q ≤ i → Ah l (v (insInner lt 0 j d)[p]!) (v (insInner lt 0 j d)[q]!)) ∧ (∀ p, p ≤ i → v (insInner lt 0 j d)[p]! ≤ n) := by
  intro j
  induction j with
  | zero =>
    intro d hj hi hn hs hp hq
    refine ⟨rfl, fun _ _ _ => rfl, fun p q h1 h2 => ?_, fun p h1 => ?_⟩
    · show Ah l (v d[p]!) (v d[q]!)
      by_cases e : p = 0
      · subst e
        rw [hn]
        exact hq q h1 h2
      · exact hp p q h1 h2 e (by omega)
    · show v d[p]! ≤ n
      by_cases e : p = 0
      · subst e
        omega
      · have := hs p h1 e
        omega
  | succ j ih =>
    intro d hj hi hn hs hp hq
    rw [insInner]
    by_cases c : lt d[j + 1]! d[j]! = true
    · rw [if_pos (by simp [c])]
      have e : ∀ p, p < d.size → (swp d (j + 1) j)[p]! = if p = j then d[j + 1]! else if p = j + 1 then d[j]! else d[p]! := fun p h => get_swp d j (by omega) p h
      have hsz : (swp d (j + 1) j).size = d.size := by simp [swp]
      have hc := (hlt _ _).1 c
      have hnj : Ah l n (v d[j]!) := by
        unfold Ah
        rw [← hn]
        omega
      have := ih (swp d (j + 1) j) (by omega) (by omega) (by rw [e j (by omega), if_pos rfl]; exact hn)
        (fun p h1 h2 => by
          rw [e p (by omega), if_neg h2]
          by_cases h3 : p = j + 1
          · rw [if_pos h3]; exact hs j (by omega) (by omega)
          · rw [if_neg h3]; exact hs p h1 h3)
        (fun p q h1 h2 h3 h4 => by
          rw [e p (by omega), if_neg h3, e q (by omega), if_neg h4]
          by_cases h5 : p = j + 1
          · rw [if_pos h5, if_neg (show ¬ q = j + 1 by omega)]; exact hp j q (by omega) h2 (by omega) (by omega)
          · rw [if_neg h5]
            by_cases h6 : q = j + 1
            · rw [if_pos h6]; exact hp p j (by omega) (by omega) h5 (by omega)
            · rw [if_neg h6]; exact hp p q h1 h2 h5 h6)
        (fun q h1 h2 => by
          rw [e q (by omega), if_neg (by omega)]
          by_cases h3 : q = j + 1
          · rw [if_pos h3]; exact hnj
          · rw [if_neg h3]; exact hq q (by omega) h2)
      refine ⟨this.1.trans hsz, fun p h1 h2 => ?_, this.2.2⟩
      rw [this.2.1 p h1 (by omega), e p h2, if_neg (by omega), if_neg (by omega)]
    · rw [if_neg (by simp [c])]
      have hc : ¬ rd l (v d[j]!) < rd l (v d[j + 1]!) := fun h => c ((hlt _ _).2 h)
      have hjn : Ah l (v d[j]!) n := by
        have := hs j (by omega) (by omega)
        unfold Ah
        rw [← hn]
        rw [← hn] at this
        omega
      refine ⟨rfl, fun _ _ _ => rfl, fun p q h1 h2 => ?_, fun p h1 => ?_⟩
      · by_cases h3 : p = j + 1
        · subst h3
          rw [hn]
          exact hq q h1 h2
        · by_cases h4 : q = j + 1
          · subst h4
            rw [hn]
            by_cases h5 : p = j
            · rw [h5]; exact hjn
            · exact (hp p j (by omega) (by omega) h3 (by omega)).trans hjn
          · exact hp p q h1 h2 h3 h4
      · by_cases e : p = j + 1
        · subst e
          omega
        · have := hs p h1 e
          omega
theorem outer_ah {α : Type} [Inhabited α] (lt : α → α → Bool) (v : α → Int) (l : List Int) (hlt : ∀ x y, lt x y = true ↔ rd l (v y) < rd l (v x)) : ∀ (g i : Nat) (d : Array α), i + g = d.size → 0 < i →
    (∀ p, i ≤ p → p < d.size → v d[p]! = (p : Int)) → (∀ p, p < i → v d[p]! < (i : Int)) → (∀ p q, p < q → q < i → Ah l (v d[p]!) (v d[q]!)) →
    (insOuter lt 0 d.size i d).size = d.size ∧ ∀ p q, p < q → q < d.size → Ah l (v (insOuter lt 0 d.size i d)[p]!) (v (insOuter lt 0 d.size i d)[q]!) := by
  intro g
  induction g with
  | zero =>
    intro i d hg hi h1 h2 h3
    rw [insOuter, if_neg (by omega)]
    exact ⟨rfl, fun p q a b => h3 p q a (by omega)⟩
  | succ g ih =>
    intro i d hg hi h1 h2 h3
    rw [insOuter, if_pos (by omega)]
    have hn := h1 i (Nat.le_refl _) (by omega)
    have a := inner_ah lt v l hlt i (i : Int) i d (Nat.le_refl _) (by omega) hn
      (fun p hp hne => h2 p (by omega)) (fun p q hpq hq hp hq' => h3 p q hpq (by omega)) (fun q hq hq' => by omega)
    have := ih (i + 1) (insInner lt 0 i d) (by omega) (by omega)
      (fun p hp hp' => by rw [a.2.1 p (by omega) (by omega)]; exact h1 p (by omega) (by omega))
      (fun p hp => by have := a.2.2.2 p (by omega); push_cast; omega)
      (fun p q hpq hq => a.2.2.1 p q hpq (by omega))
    rw [a.1] at this
    exact this
/-- The insertion sort of 0..n-1 by length, the longest first: stable. -/
theorem insertion_ah {α : Type} [Inhabited α] (lt : α → α → Bool) (v : α → Int) (l : List Int) (hlt : ∀ x y, lt x y = true ↔ rd l (v y) < rd l (v x)) (d : Array α) (h1 : ∀ p, p < d.size → v d[p]! = (p : Int)) :
    ((insertionSort lt d 0 d.size).toList.map v).Pairwise (Ah l) ∧ ((insertionSort lt d 0 d.size).toList.map v).Perm (d.toList.map v) := by
  have hS : SWO lt := ⟨fun x => by
      cases h : lt x x
      · rfl
      · have := (hlt x x).1 h
        omega, fun x y z a b => (hlt x z).2 (by have := (hlt x y).1 a; have := (hlt y z).1 b; omega), fun x y z a b => by
      cases h : lt x z
      · rfl
      · have h1 := (hlt x z).1 h
        have h2 : ¬ rd l (v y) < rd l (v x) := fun c => by rw [(hlt x y).2 c] at a; cases a
        have h3 : ¬ rd l (v z) < rd l (v y) := fun c => by rw [(hlt y z).2 c] at b; cases b
        omega⟩
  have hp := (insertionSort_holds (lt := lt) hS d 0 d.size (Nat.zero_le _) (Nat.le_refl _)).1
  refine ⟨?_, ?_⟩
  · by_cases h0 : 0 < d.size
    · have := outer_ah lt v l hlt (d.size - 1) 1 d (by omega) (by omega) (fun p _ h => h1 p h) (fun p h => by
        have := h1 p (by omega)
        omega) (fun p q a b => by omega)
      rw [show insertionSort lt d 0 d.size = insOuter lt 0 d.size 1 d from rfl, List.pairwise_iff_getElem]
      intro p q hp hq hpq
      simp only [List.length_map, Array.length_toList] at hp hq
      have := this.2 p q hpq (by omega)
      rw [getElem!_pos _ p (by omega), getElem!_pos _ q (by omega)] at this
      simpa using this
    · have hz : (insertionSort lt d 0 d.size).size = 0 := by rw [hp.1]; omega
      rw [List.length_eq_zero_iff.1 (show (insertionSort lt d 0 d.size).toList.length = 0 by simpa using hz)]
      exact List.Pairwise.nil
  · have := hp.2.2
    have e1 : ∀ E : Array α, E.extract 0 E.size = E := fun E => by simp
    have e2 := e1 (insertionSort lt d 0 d.size)
    rw [hp.1] at e2
    rw [e2, e1 d] at this
    exact this.map v

end Go.Proofs.Ytpicfpdpcbncmaa.Pure

namespace Go.Proofs.Ytpicfpdpcbncmaa.Pure
open Go.RowKit Go.Proofs.Ytpicfpdpcbncmaa.P Go.Proofs.YtpicfpdpcbncmaaW.PrintWords Go.Proofs.YtpicfpdpcbncmaaW.PrintLast Go.Proofs.Ytpicfpdpcbncmaa.Opn
set_option linter.unusedVariables false
set_option linter.unusedSimpArgs false

theorem inOrder_l0 (n : Nat) (hn : n ≤ 1048576) : ∀ (d k i : Nat), i + d = n → d < k → impl_inOrder.l0 k (marks 0 i) (n : Int) (i : Int) = some (marks 0 n) := by
  intro d
  induction d with
  | zero =>
    intro k i h hk
    obtain ⟨k, rfl⟩ := round hk
    simp only [impl_inOrder.l0]
    rw [if_neg (by omega)]
    have : i = n := by omega
    subst this
    rfl
  | succ d ih =>
    intro k i h hk
    obtain ⟨k, rfl⟩ := round hk
    simp only [impl_inOrder.l0]
    rw [if_pos (by omega), if_pos (by rw [marks_length]; omega), wrap_id (x := (i : Int) + 1) (by omega) (by omega)]
    have := ih k (i + 1) (by omega) (by omega)
    rw [marks_snoc, Int.zero_add] at this
    simpa using this

end Go.Proofs.Ytpicfpdpcbncmaa.Pure

namespace Go.Proofs.Ytpicfpdpcbncmaa.Pure
open Go.RowKit Go.Proofs.Ytpicfpdpcbncmaa.P Go.Proofs.YtpicfpdpcbncmaaW.PrintWords Go.Proofs.YtpicfpdpcbncmaaW.PrintLast Go.Proofs.Ytpicfpdpcbncmaa.Opn
set_option linter.unusedVariables false
set_option linter.unusedSimpArgs false

def insAh (l : List Int) (x : Int) : List Int → List Int
  | [] => [x]
  | y :: o => if rd l y ≥ rd l x then y :: insAh l x o else x :: y :: o
theorem insAh_skip (l : List Int) (x : Int) : ∀ (p q : List Int), (∀ y, y ∈ p → rd l y ≥ rd l x) → insAh l x (p ++ q) = p ++ insAh l x q := by
  intro p
  induction p with
  | nil => intro q _; rfl
  | cons y p ih =>
    intro q h
    rw [List.cons_append, insAh, if_pos (h y List.mem_cons_self), ih q fun z hz => h z (List.mem_cons_of_mem _ hz)]
    rfl
theorem insAh_perm (l : List Int) (x : Int) : ∀ o : List Int, (insAh l x o).Perm (x :: o) := by
  intro o
  induction o with
  | nil => exact List.Perm.refl _
  | cons y o ih =>
    rw [insAh]
    split
    · exact (List.Perm.cons y ih).trans (List.Perm.swap x y o)
    · exact List.Perm.refl _
theorem insAh_ah (l : List Int) (x : Int) : ∀ o : List Int, o.Pairwise (Ah l) → (∀ y, y ∈ o → y < x) → (insAh l x o).Pairwise (Ah l) := by
  intro o
  induction o with
  | nil => intro _ _; exact List.pairwise_singleton _ _
  | cons y o ih =>
    intro hp hx
    have hp' := List.pairwise_cons.1 hp
    have hy := hx y List.mem_cons_self
    rw [insAh]
    split
    · rename_i hc
      refine List.pairwise_cons.2 ⟨fun z hz => ?_, ih hp'.2 fun z hz => hx z (List.mem_cons_of_mem _ hz)⟩
      rcases List.mem_cons.1 ((insAh_perm l x o).mem_iff.1 hz) with rfl | hz
      · unfold Ah
        omega
      · exact hp'.1 z hz
    · rename_i hc
      have hxy : Ah l x y := by
        unfold Ah
        omega
      refine List.pairwise_cons.2 ⟨fun z hz => ?_, hp⟩
      rcases List.mem_cons.1 hz with rfl | hz
      · exact hxy
      · exact hxy.trans (hp'.1 z hz)
def ordL (l : List Int) : Nat → List Int
  | 0 => []
  | i + 1 => insAh l (i : Int) (ordL l i)
theorem ordL_perm (l : List Int) : ∀ i, (ordL l i).Perm (marks 0 i) := by
  intro i
  induction i with
  | zero => exact List.Perm.refl _
  | succ i ih =>
    rw [ordL, marks_snoc, Int.zero_add]
    exact (insAh_perm l _ _).trans ((List.Perm.cons _ ih).trans (List.perm_append_singleton _ _).symm)
theorem ordL_mem (l : List Int) (i : Nat) (y : Int) (h : y ∈ ordL l i) : 0 ≤ y ∧ y < (i : Int) := by
  have := (mem_marks i 0 y).1 ((ordL_perm l i).mem_iff.1 h)
  omega
theorem ordL_ah (l : List Int) : ∀ i, (ordL l i).Pairwise (Ah l) := by
  intro i
  induction i with
  | zero => exact List.Pairwise.nil
  | succ i ih => exact insAh_ah l _ _ ih fun y hy => (ordL_mem l i y hy).2
theorem ordL_len (l : List Int) (i : Nat) : (ordL l i).length = i := by rw [(ordL_perm l i).length_eq, marks_length]
/-- Go's stable sort by lengths of 0..n-1 is the reference's order. -/
theorem stable_ordL (l : List Int) (hv : ∀ x, x ∈ l → 1 ≤ x ∧ x ≤ 50) : stableL l (marks 0 l.length) = ordL l l.length := by
  by_cases h0 : 0 < l.length
  · have hlt : ∀ x y : Ix (l.length - 1), Go.Proofs.ltOf (cfIx l (l.length - 1)) x y = true ↔ rd l y.v < rd l x.v := by
      intro x y
      have hx := x.h
      have hy := y.h
      simp only [Bool.and_eq_true, decide_eq_true_eq] at hx hy
      obtain ⟨a, ha⟩ : ∃ a : Nat, x.v = (a : Int) := ⟨x.v.toNat, by omega⟩
      obtain ⟨b, hb⟩ : ∃ a : Nat, y.v = (a : Int) := ⟨y.v.toNat, by omega⟩
      have h1 := hv _ (rd_mem l a (by omega))
      have h2 := hv _ (rd_mem l b (by omega))
      unfold Go.Proofs.ltOf cfIx
      rw [ha, hb, wrap_id (by omega) (by omega), decide_eq_true_eq]
      omega
    have hsz : ((marks 0 l.length).map (toIx (l.length - 1))).toArray.size = l.length := by simp [marks_length]
    have h1 : ∀ p, p < ((marks 0 l.length).map (toIx (l.length - 1))).toArray.size → (((marks 0 l.length).map (toIx (l.length - 1))).toArray[p]!).v = (p : Int) := by
      intro p hp
      have hp0 := hp
      rw [hsz] at hp
      have hm := marks_rd l.length 0 p hp
      rw [rd_nat _ p (by rw [marks_length]; exact hp)] at hm
      rw [getElem!_pos _ p hp0]
      simp only [List.getElem_toArray, List.getElem_map, hm]
      exact (toIx_v _ _ (by omega)).trans (by omega)
    have hi := insertion_ah (Go.Proofs.ltOf (cfIx l (l.length - 1))) (fun x : Ix (l.length - 1) => x.v) l hlt ((marks 0 l.length).map (toIx (l.length - 1))).toArray h1
    rw [hsz] at hi
    have e : stableL l (marks 0 l.length) = (Go.Sort.insertionSort (Go.Proofs.ltOf (cfIx l (l.length - 1))) ((marks 0 l.length).map (toIx (l.length - 1))).toArray 0 l.length).toList.map (fun x : Ix (l.length - 1) => x.v) := by
      unfold stableL
      rw [marks_length]
    rw [e]
    refine perm_ah_eq (hi.2.trans ?_) hi.1 (ordL_ah l _)
    have hmv : ((marks 0 l.length).map (toIx (l.length - 1))).toArray.toList.map (fun x : Ix (l.length - 1) => x.v) = marks 0 l.length := by
      rw [List.toList_toArray, List.map_map]
      conv => rhs; rw [← List.map_id (marks 0 l.length)]
      refine List.map_congr_left fun x hx => ?_
      have := (mem_marks _ _ _).1 hx
      exact toIx_v _ x (by omega)
    rw [hmv]
    exact (ordL_perm l _).symm
  · have : l = [] := List.length_eq_zero_iff.1 (by omega)
    subst this
    unfold stableL Go.Sort.insertionSort
    rw [Go.Sort.insOuter, if_neg (by simp [marks])]
    rfl
theorem longest_l1 (l : List Int) (a : Int) (o : List Int) (x : Int) (n : Int) (i : Int) (R : Option (List Int × Int × Bool)) (ho : o.length ≤ 1048576) (hb : ∀ y, y ∈ o → 0 ≤ y ∧ y < (l.length : Int)) (K : Nat) (hR : ∀ k, K ≤ k → spec_GiveLongest.l0 k l a (insAh l x o) l n (wrap64 (i + 1)) = R) :
    ∀ (d k j : Nat), j + d = o.length → K + d < k → (∀ y, y ∈ o.take j → rd l y ≥ rd l x) → spec_GiveLongest.l1 k l a o x (rd l x) (j : Int) l n i = R := by
  have fin : ∀ (k j : Nat), j ≤ o.length → K ≤ k → insAh l x o = o.take j ++ x :: o.drop j → spec_GiveLongest.l0 k l a ((([] ++ o.take j) ++ [x]) ++ o.drop j) l n (wrap64 (i + 1)) = R := by
    intro k j hj hk e
    rw [← hR k hk, e, List.nil_append, List.append_assoc]
    rfl
  intro d
  induction d with
  | zero =>
    intro k j hj hk hp
    obtain ⟨k, rfl⟩ := round (show 0 < k by omega)
    have e : insAh l x o = o.take j ++ x :: o.drop j := by
      have := insAh_skip l x (o.take j) (o.drop j) hp
      rw [List.take_append_drop] at this
      rw [this, List.drop_eq_nil_of_le (by omega)]
      rfl
    rw [spec_GiveLongest.l1, if_neg (by omega)]
    simp only [Option.bind_some]
    rw [if_pos (by omega), if_pos (by omega), if_pos (by simp; omega), if_pos (by simp; omega), if_pos (by simp; omega), Int.toNat_natCast]
    exact fin k j (by omega) (by omega) e
  | succ d ih =>
    intro k j hj hk hp
    obtain ⟨k, rfl⟩ := round (show 0 < k by omega)
    have hr := hb _ (rd_mem o j (by omega))
    have q : ((j + 1 : Nat) : Int) = (j : Int) + 1 := by omega
    rw [spec_GiveLongest.l1, if_pos (by omega), if_pos (by omega), if_pos (by omega), if_pos (by omega)]
    by_cases c : rd l (rd o (j : Int)) ≥ rd l x
    · rw [if_pos c, wrap_id (x := (j : Int) + 1) (by omega) (by omega), ← q]
      refine ih k (j + 1) (by omega) (by omega) fun y hy => ?_
      rw [take_rd o j (by omega)] at hy
      rcases List.mem_append.1 hy with h | h
      · exact hp y h
      · rw [List.mem_singleton.1 h]
        exact c
    · have e : insAh l x o = o.take j ++ x :: o.drop j := by
        have := insAh_skip l x (o.take j) (o.drop j) hp
        rw [List.take_append_drop] at this
        rw [this, drop_rd o j (by omega), insAh, if_neg c]
      rw [if_neg c]
      simp only [Option.bind_some]
      rw [if_pos (by omega), if_pos (by simp; omega), if_pos (by simp; omega), if_pos (by simp; omega), Int.toNat_natCast]
      exact fin k j (by omega) (by omega) e
theorem longest_l0 (l : List Int) (a : Int) (hl : l.length ≤ 8) (R : Option (List Int × Int × Bool)) (K : Nat) (hR : ∀ k, K ≤ k → spec_GiveLongest.l0 k l a (ordL l l.length) l (l.length : Int) (l.length : Int) = R) :
    ∀ (d k i : Nat), i + d = l.length → K + d * 20 < k → spec_GiveLongest.l0 k l a (ordL l i) l (l.length : Int) (i : Int) = R := by
  intro d
  induction d with
  | zero =>
    intro k i hi hk
    have : i = l.length := by omega
    subst this
    exact hR k (by omega)
  | succ d ih =>
    intro k i hi hk
    obtain ⟨k, rfl⟩ := round (show 0 < k by omega)
    have q : ((i + 1 : Nat) : Int) = (i : Int) + 1 := by omega
    rw [spec_GiveLongest.l0, if_pos (by omega), if_pos (by omega), if_pos (by omega)]
    refine longest_l1 l a (ordL l i) (i : Int) (l.length : Int) (i : Int) R (by rw [ordL_len]; omega) (fun y hy => by have := ordL_mem l i y hy; omega) (K + d * 20 + 1) (fun k' hk' => ?_) (ordL l i).length k 0 (by omega) (by rw [ordL_len]; omega) (fun y hy => by simp at hy)
    rw [wrap_id (x := (i : Int) + 1) (by omega) (by omega), ← q]
    exact ih k' (i + 1) (by omega) (by omega)
theorem giveLongest_eq (l : List Int) (a : Int) (hn : l.length ≤ 1048576) (k k' : Nat) (hk : l.length + 300 < k) (hk' : l.length + 300 < k') : ∃ c r b, spec_GiveLongest.f k l a = some (c, r, b) ∧ impl_GiveLongest.f k' l a = some (c, r, b) ∧ c.length ≤ l.length := by
  unfold spec_GiveLongest.f impl_GiveLongest.f
  rw [spec_goodC l a hn k (by omega), impl_goodC]
  simp only [Option.bind_some]
  by_cases hg : goodC l a = true
  · have hf := goodC_fact hg
    rw [if_pos hg, if_pos hg]
    obtain ⟨c, r, h1, h2, h3, h4⟩ := give_eq l (ordL l l.length) a hf.1 hf.2.1 hf.2.2 (ordL_perm l _) 60 k' 60 (by omega) (by omega) (by omega)
    have hR : ∀ q, 61 ≤ q → spec_GiveLongest.l0 q l a (ordL l l.length) l (l.length : Int) (l.length : Int) = some (c, r, true) := by
      intro q hq
      obtain ⟨q, rfl⟩ := round (show 0 < q by omega)
      obtain ⟨c', r', g1, g2, g3, g4⟩ := give_eq l (ordL l l.length) a hf.1 hf.2.1 hf.2.2 (ordL_perm l _) q k' q (by omega) (by omega) (by omega)
      have e := h3.symm.trans g3
      simp only [Option.some.injEq, Prod.mk.injEq] at e
      obtain ⟨rfl, rfl, _⟩ := e
      rw [spec_GiveLongest.l0, if_neg (by omega), g1, Option.bind_some, g2]
      rfl
    have h5 := longest_l0 l a hf.1 _ 61 hR l.length k 0 (by omega) (by omega)
    have h6 := inOrder_l0 l.length hn l.length k' 0 (by omega) (by omega)
    have h7 : impl_inOrder.f k' l = some (marks 0 l.length) := h6
    refine ⟨c, r, true, h5, ?_, by omega⟩
    rw [h7, Option.bind_some, if_pos (by rw [marks_length]; omega), if_pos, stable_ordL l hf.2.1, h3]
    rw [List.all_eq_true]
    intro x hx
    have := (mem_marks _ _ _).1 hx
    rw [decide_eq_true (show 0 ≤ x by omega), decide_eq_true (show x < (l.length : Int) by omega)]
    rfl
  · rw [if_neg hg, if_neg hg]
    exact ⟨[], 0, false, rfl, rfl, by simp⟩

end Go.Proofs.Ytpicfpdpcbncmaa.Pure

namespace Go.Proofs.Ytpicfpdpcbncmaa.Pure
open Go.RowKit Go.Proofs.Ytpicfpdpcbncmaa.P Go.Proofs.YtpicfpdpcbncmaaW.PrintWords Go.Proofs.YtpicfpdpcbncmaaW.PrintLast Go.Proofs.Ytpicfpdpcbncmaa.Opn
set_option linter.unusedVariables false
set_option linter.unusedSimpArgs false

theorem FnExactGiveLongest : laws_FnExactGiveLongest.Pure := by
  intro l a hl _
  by_cases hn : l.length ≤ 1048576
  · refine ⟨l.length + 400, ?_⟩
    obtain ⟨c, r, b, h1, h2, h3⟩ := giveLongest_eq l a hn (l.length + 400) (l.length + 400) (by omega) (by omega)
    obtain ⟨c', r', b', h1', h2', h3'⟩ := giveLongest_eq l a hn (l.length + 400) (l.length + 398) (by omega) (by omega)
    have e : (c, r, b) = (c', r', b') := by rw [h1] at h1'; exact Option.some.inj h1'
    simp only [Prod.mk.injEq] at e
    obtain ⟨rfl, rfl, rfl⟩ := e
    unfold laws_FnExactGiveLongest.f
    rw [if_neg (by omega)]
    simp only [toIntS l hn (l.length + 400) (by omega), Option.bind_some, h1, h2, eqIntS c c (by omega) (l.length + 400) (by omega), decide_true, if_true]
    rw [laws_FnExactGiveLongest.j0]
    simp only [bne_self_eq_false, Bool.false_eq_true, if_false, toIntS l hn (l.length + 399) (by omega), Option.bind_some, eqIntS l l hn (l.length + 399) (by omega), decide_true, if_true, markIntS l 1 (by omega) (by omega) (l.length + 399) (by omega), eqIntS c c (by omega) (l.length + 399) (by omega)]
    rw [if_neg (by omega), laws_FnExactGiveLongest.j1]
    simp only [bne_self_eq_false, Bool.false_eq_true, if_false, markIntS c 1 (by omega) (by omega) (l.length + 398) (by omega), Option.bind_some, heldIntS c.length 1 (by omega) (by omega) (l.length + 398) (by omega), toIntS l hn (l.length + 398) (by omega), h2', eqIntS c c (by omega) (l.length + 398) (by omega), decide_true, if_true]
    rw [if_neg (by omega), laws_FnExactGiveLongest.j2]
    simp only [bne_self_eq_false, Bool.false_eq_true, if_false, heldIntS c.length 1 (by omega) (by omega) (l.length + 397) (by omega), Option.bind_some, if_true]
    rw [if_neg (by omega)]
  · refine ⟨0, ?_⟩
    unfold laws_FnExactGiveLongest.f
    rw [if_pos (by omega)]

end Go.Proofs.Ytpicfpdpcbncmaa.Pure

namespace Go.Proofs.Ytpicfpdpcbncmaa.fnExactGiveLongest
open Go.ChangeShapes Go.WideShapes Go.ChangeAt Go.RowKit Go.Proofs.Ytpicfpdpcbncmaa.P Go.Proofs.Ytpicfpdpcbncmaa.Opn Go.Proofs.YtpicfpdpcbncmaaW.PrintWords
open Go.ChangeMaps (open_string shut_string)
set_option linter.unusedVariables false
theorem own : ownKnob Try.prog.godebug = none := by kernel_rfl
theorem laidOut : laidOutB Try.prog = true := by kernel_rfl
set_option maxRecDepth 100000 in
theorem lifted (os : Os) (started : os.Started) (H : Type) (enc : TypeId × Value → H) :
    ReturnsInHanded {} Try.checked os 5 .any (Rows.fnExactGiveLongestSpec.pre6 enc Try.prog Try.f5 Rows.fnExactGiveLongestRow.domain false) (Rows.fnExactGiveLongestSpec.post enc Try.prog Try.f5 false true false false) := by
  refine returnsInHanded_of_change_sized (C := Try.checked) own started (by kernel_rfl) Try.func5
    (ChangeSpec.witness6 (enc := enc) (C := Try.checked) false ⟨#[], #[.slice none 0 0, .int .i64 0], []⟩ 8 (by kernel_rfl) (by kernel_rfl) (by kernel_rfl) (by kernel_rfl)) ?_
  intro W base args ds gs before hval0 hW hcnd hsz0 _
  have hval : ∀ (j : Nat) t v, Try.f5.params[j]? = some t → args[j]? = some v → Value.okWide Try.prog W .any base t v := hval0
  have hW' := hW
  obtain ⟨p, q, hA0, hV, rfl, hfz, hnd⟩ := hW
  have hA : DataW.TrodAll enc Try.prog W 0 (fun _ => true) true Try.f5.params.toList args.toList ds p := hA0
  rw [Try.params5] at hA hval
  obtain ⟨v0, vs0, d0, ds0, p0, q0, hargs, rfl, rfl, h0, r0⟩ := trodAll_cons hA
  obtain ⟨v1, vs1, d1, ds1, p1, q1, rfl, rfl, rfl, h1, r1⟩ := trodAll_cons r0
  obtain ⟨rfl, rfl, rfl⟩ := trodAll_nil r1
  obtain rfl : args = #[v0, v1] := by cases args; simp_all
  obtain ⟨rfl, rfl⟩ := trodVars_none hV
  have k0 := h0
  have lt0 : ∀ x ∈ p0, x.block < W.heap.size := by obtain ⟨m, hm⟩ := k0; exact DataW.trod_lt m _ _ _ hm
  obtain ⟨fuel0, hf0⟩ := h0
  obtain ⟨y0, hK0, hw0⟩ := opens22.out enc W fuel0 _ _ hf0
  obtain ⟨a0, len0, cap0, rfl⟩ := okWide_slice Try.underlying22 (hval 0 22 v0 rfl rfl)
  obtain ⟨A0, c0, hcs0, hc0, hr0⟩ := hK0
  simp only [Value.cells, List.cons.injEq, Value.slice.injEq, and_true] at hcs0
  obtain ⟨rfl, rfl, rfl⟩ := hcs0
  obtain ⟨a1, rfl, rfl, rfl, w1⟩ := open_int Try.underlying3 (hval 1 3 v1 rfl rfl) h1
  obtain ⟨k_, hP⟩ := Pure.FnExactGiveLongest y0 a1 hw0 (wfI_of w1)
  refine (laws_FnExactGiveLongest.calls k_ _ _ y0 a1 true W hr0 hc0 hP).mono fun e W' he => ?_
  obtain ⟨rfl, hd⟩ := he
  have bel : Below W.heap.size W W' := hd
  exact ⟨_, rfl, _, _, _, [], _, [], hW', trodAll_mk1 (shut_bool Try.underlying4 _), (trodAll_cons_mk (Below.trod laidOut (by kernel_rfl) (of_decide_eq_true (by kernel_rfl)) k0 bel lt0) (trodAll_cons_mk (shut_int Try.underlying3 w1) trodAll_mk0)), rfl, bel.frame _, fun h => by cases h⟩
theorem over : Rows.fnExactGiveLongestRow.holds Try.pinned (OpenSpec.ofChange Rows.fnExactGiveLongestSpec) :=
  OpenClaim.holds_of_wide 5 Try.f5 rfl rfl rfl rfl rfl rfl rfl ⟨rfl, rfl, rfl, rfl, rfl⟩ rfl rfl rfl rfl rfl (by kernel_rfl) Try.func5 (by kernel_rfl)
    (of_decide_eq_true (by kernel_rfl)) (by unfold Func.isWrapper; first | (rw [if_pos (by decide +kernel)]; kernel_rfl) | (rw [if_neg (by decide +kernel)]; exact ⟨rfl, rfl⟩))
    (fun os started H enc _ => lifted os started H enc)
end Go.Proofs.Ytpicfpdpcbncmaa.fnExactGiveLongest
namespace Go.Proofs.Ytpicfpdpcbncmaa
/-- The row. -/
theorem fnExactGiveLongest_holds : Rows.FnExactGiveLongestSaid := fnExactGiveLongest.over
#print axioms fnExactGiveLongest_holds
end Go.Proofs.Ytpicfpdpcbncmaa
