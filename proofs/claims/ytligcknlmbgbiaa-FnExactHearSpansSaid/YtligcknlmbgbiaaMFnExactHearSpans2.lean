/- FnExactHearSpans: for every input that can be read, the law returns true and its arguments read as before. Conditions: none beyond the row's own. (Part 3 of 7: contracts made by pw.py with the kit's print, contracts by hand, plain laws, the row.) -/
import Derived.Test.YtligcknlmbgbiaaMFnExactHearSpans1

namespace Go.Proofs.Ytligcknlmbgbiaa.P
open Go.RowKit Go.Proofs.YtligcknlmbgbiaaW.PrintWords Go.Proofs.YtligcknlmbgbiaaW.PrintLast Go.Proofs.YtligcknlmbgbiaaW.PrintMore
attribute [local go_sem] max2_int min2_int max_two min_two max_three min_three max_four min_four
set_option linter.unusedVariables false
set_option linter.unusedSimpArgs false

/-! ### spec_l2Add: function 55 -/
mutual
def spec_l2Add.j1 : Nat → List (S59) → List (S59) → Int → Int → Int → Option ((List (S59)))
  | 0, _, _, _, _, _ => none
  | k + 1, x0, x5, x6, x102000, x102001 => spec_l2Add.l1 k x0 x5 x6 x102000 x102001
def spec_l2Add.l1 : Nat → List (S59) → List (S59) → Int → Int → Int → Option ((List (S59)))
  | 0, _, _, _, _, _ => none
  | k + 1, x0, x5, x6, x102000, x102001 => if x6 < (x0.length : Int) then (if 0 ≤ x6 then (spec_l2Add.j3 k x0 x5 x6 (decide (((rd_T59 x0 x6).f0) ≤ x102001)) x102000 x102001) else (none)) else (spec_l2Add.j3 k x0 x5 x6 false x102000 x102001)
def spec_l2Add.j3 : Nat → List (S59) → List (S59) → Int → Bool → Int → Int → Option ((List (S59)))
  | 0, _, _, _, _, _, _ => none
  | k + 1, x0, x5, x6, x43, x102000, x102001 => if x43 = true then (if 0 ≤ x6 then (if x6 < (x0.length : Int) then ((spec_l1Least.f x102000 ((rd_T59 x0 x6).f0)).bind fun t109 => ((spec_l1Most.f x102001 ((rd_T59 x0 x6).f1)).bind fun t111 => (spec_l2Add.l1 k x0 x5 (wrap64 (x6 + 1)) t109 t111))) else (none)) else (none)) else (if x5.length < 8796093022208 then ((some (x5 ++ [(⟨x102000, x102001⟩ : S59)] : List (S59))).bind fun y112 => (if 0 ≤ x6 then (if x6 ≤ (x0.length : Int) then ((some (x0.drop (x6 : Int).toNat : List (S59))).bind fun y115 => (if y112.length + y115.length < 8796093022208 then (some (y112 ++ y115)) else (none))) else (none)) else (none))) else (none))
def spec_l2Add.l0 : Nat → List (S59) → List (S59) → Int → Int → Int → Option ((List (S59)))
  | 0, _, _, _, _, _ => none
  | k + 1, x0, x5, x6, x102000, x102001 => if x6 < (x0.length : Int) then (if 0 ≤ x6 then (if ((rd_T59 x0 x6).f1) < x102000 then (if x5.length < 8796093022208 then (spec_l2Add.l0 k x0 (x5 ++ [(⟨(rd_T59 x0 x6).f0, (rd_T59 x0 x6).f1⟩ : S59)]) (wrap64 (x6 + 1)) x102000 x102001) else (none)) else (spec_l2Add.j1 k x0 x5 x6 x102000 x102001)) else (none)) else (spec_l2Add.j1 k x0 x5 x6 x102000 x102001)
end
def spec_l2Add.f (k : Nat) (l0 : List (S59)) (a1_0 : Int) (a1_1 : Int) : Option ((List (S59))) := spec_l2Add.l0 k l0 ([] : List (S59)) 0 a1_0 a1_1
def spec_l2Add.T3 : Bool × List (List Nat × List Nat) := (true, [([], []), ([], []), ([1], [1]), ([0, 2], [0, 2]), ([3], [3]), ([4], [4]), ([4], [4]), ([5, 6, 4], [4, 5, 6]), ([7, 4], [4, 7]), ([8, 4], [4, 8]), ([4], [4]), ([10, 4], [4, 10]), ([9, 11, 4], [4, 9, 11]), ([4, 12], [4, 12])])
def spec_l2Add.B3 : List Nat := [0, 0, 2, 7, 15, 31, 31, 127, 255, 511, 31, 1055, 4095, 8191]
theorem spec_l2Add.tab3 : rtab .any (opsOf Try.f55 3) = spec_l2Add.T3 := by kernel_rfl
theorem spec_l2Add.bits3 : waitsOk spec_l2Add.T3.2 spec_l2Add.B3 = true := by kernel_rfl
def spec_l2Add.T6 : Bool × List (List Nat × List Nat) := (true, [([], []), ([], []), ([1], [1]), ([0, 2], [0, 2]), ([3], [3]), ([4], [4]), ([4], [4]), ([5, 6, 4], [4, 5, 6]), ([7, 4], [4, 7]), ([8, 4], [4, 8]), ([4], [4]), ([10, 4], [4, 10]), ([9, 11, 4], [4, 9, 11]), ([4, 12], [4, 12])])
def spec_l2Add.B6 : List Nat := [0, 0, 2, 7, 15, 31, 31, 127, 255, 511, 31, 1055, 4095, 8191]
theorem spec_l2Add.tab6 : rtab .any (opsOf Try.f55 6) = spec_l2Add.T6 := by kernel_rfl
theorem spec_l2Add.bits6 : waitsOk spec_l2Add.T6.2 spec_l2Add.B6 = true := by kernel_rfl
def spec_l2Add.T7 : Bool × List (List Nat × List Nat) := (true, [([], []), ([0], [0]), ([], []), ([], []), ([2, 3], [2, 3]), ([4], [4]), ([5], [5]), ([1, 6], [1, 6]), ([], []), ([8], [8]), ([], []), ([], []), ([10, 11], [10, 11]), ([12], [12]), ([13], [13]), ([9, 14, 7], [9, 14]), ([7, 15], [7, 15]), ([16, 15, 0, 1, 2, 3, 4, 5, 6, 7, 8, 9, 10, 11, 12, 13, 14, 15, 16], [16])])
def spec_l2Add.B7 : List Nat := [0, 1, 0, 0, 12, 28, 60, 127, 0, 256, 0, 0, 3072, 7168, 15360, 32767, 65535, 131071]
theorem spec_l2Add.tab7 : rtab .any (opsOf Try.f55 7) = spec_l2Add.T7 := by kernel_rfl
theorem spec_l2Add.bits7 : waitsOk spec_l2Add.T7.2 spec_l2Add.B7 = true := by kernel_rfl
set_option maxHeartbeats 8000000 in
set_option maxRecDepth 100000 in
theorem spec_l2Add.calls (k : Nat) (A0 : Option Addr) (c0 : Nat) (l0 : List (S59)) (a1_0 : Int) (a1_1 : Int) (r : List (S59)) (w : World) (hr0 : Kd.C k59 w A0 l0.length l0) (hc0 : l0.length ≤ c0) (h : spec_l2Add.f k l0 a1_0 a1_1 = some r) :
    Calls Try.prog 55 #[.slice A0 l0.length c0, .agg #[.int .i64 a1_0, .int .i64 a1_1]] w fun e w' => ∃ v0_ : Value, e = .returned (v0_) ∧ Kd.R k59 59 w' w.heap.size (fun _ => True) v0_ r ∧ Below w.heap.size w w' := by
  have hu59 := Try.underlying59
  have HR0 := Aside0.mk hr0
  have HC0 := Aside0.mk hc0
  clear hr0 hc0
  have HB := Aside0.mk (Below.refl w.heap.size w)
  have H : (spec_l2Add.l0 k l0 ([] : List (S59)) 0 a1_0 a1_1) = some r := h
  clear h
  have HC3 := Aside0.mk H
  clear H
  go_enter Try.func55, Try.ntmps55
  go_upto_block 0 with (first | ((with_reducible refine gate_dst (N := 3) rfl ?_); refine box_event ?hg (N := 3) ?hd (cs := #[.int .i64 a1_0, .int .i64 a1_1]) (t := 59) ?hr ?_; (case hd => rfl); (case hg => rfl); (case hr => first | (go_simp; done) | (go_simp; rfl)); intro gb101 hg w4 hbox hb; have n0_ := Aside0.mk (below_step (by repeat (first | (with_reducible first | exact HB.out | apply below_alloc | apply pw_below_drewN | apply below_drew1) | exact HB.out)) hb); have n1_ := Aside0.mk (hbox); have n2_ := Aside0.mk ((by rw [hg]; exact (below_size (by repeat (first | (with_reducible first | exact HB.out | apply below_alloc | apply pw_below_drewN | apply below_drew1) | exact HB.out))) : w.heap.size ≤ gb101)); have n3_ := Aside0.mk ((by rw [hg]; exact (below_size (by repeat (first | (with_reducible first | exact HB.out | apply below_alloc | apply pw_below_drewN | apply below_drew1) | exact HB.out))) : w.heap.size ≤ gb101)); clear HB; have HB := n0_; have BK101 := n1_; have GW101 := n2_; have GE101 := n3_; clear n0_ n1_ n2_ n3_; clear hb hbox hg))
  (try simp only [Act.put, List.setIfInBounds_toArray, List.set_cons_zero, List.set_cons_succ])
  go_cut [5, 6] (fun v5 v6 wc => ∃ (kq : Nat) (x5_2 : List (S59)) (x6_2 : Int), v6 = .int .i64 x6_2 ∧ Aside0 (spec_l2Add.j1 kq l0 x5_2 x6_2 a1_0 a1_1 = some r) ∧ Aside0 (kq ≤ k) ∧ Aside0 (Kd.R k59 59 wc w.heap.size (fun k_ => k_ ≠ gb101) v5 x5_2) ∧ Aside0 (wc.heap[gb101]? = some (.cells #[.int .i64 a1_0, .int .i64 a1_1] 59 (0, 0))) ∧ Aside0 (Below w.heap.size w wc))
  case first =>
    have H := HC3.out
    clear HC3
    have H' := Aside0.mk H
    clear H
    go_wp2
    go_loopg [5, 6] k (fun kq v5 v6 w' => ∃ (x5_1 : List (S59)) (x6_1 : Int), v6 = .int .i64 x6_1 ∧ Aside0 (spec_l2Add.l0 kq l0 x5_1 x6_1 a1_0 a1_1 = some r) ∧ Aside0 (kq ≤ k) ∧ Aside0 (Kd.R k59 59 w' w.heap.size (fun k_ => k_ ≠ gb101) v5 x5_1) ∧ Aside0 (w'.heap[gb101]? = some (.cells #[.int .i64 a1_0, .int .i64 a1_1] 59 (0, 0))) ∧ Aside0 (Below w.heap.size w w'))
    case atStart => exact ⟨(([] : List (S59))), (0), (by first | rfl | (simp; done) | (simp [*]; done)), H', ⟨Nat.le_refl _⟩, ⟨by first | exact Kd.R_nil _ _ _ _ _ | exact Kd.N_nil _ _ _ _ _ | exact Kd.V_nil _ _ _ _ _ | exact Kd.Q_nil _ _ _ _ _ | exact Kd.S_nil _ _ _ _ _⟩, ⟨by (with_reducible repeat first | apply blk_drewN | apply blk_drew | apply blk_alloc); exact BK101.out⟩, ⟨by repeat (first | (with_reducible first | exact HB.out | apply below_alloc | apply pw_below_drewN | apply below_drew1 | refine below_set ?_ GE101.out) | exact HB.out)⟩⟩
    case round =>
      clear H'
      try clear p2
      obtain ⟨x5_1, x6_1, rfl, HA, HK1, HO_5, BK101, HB⟩ := hrel
      cases gk with
      | zero => exact absurd HA.out (by simp [spec_l2Add.l0])
      | succ k1 =>
        have H := HA.out
        clear HA
        simp only [spec_l2Add.l0] at H
        by_cases c5 : x6_1 < (l0.length : Int)
        · rw [if_pos c5] at H
          have c5b0 : decide (x6_1 < (l0.length : Int)) = true := decide_eq_true c5
          clear c5
          (first | rw [c5b0] | (simp only [i64_w, i32_w]; rw [c5b0]) | skip)
          by_cases c6 : 0 ≤ x6_1
          · rw [if_pos c6] at H
            have c6b0 : decide (0 ≤ x6_1) = true := decide_eq_true c6
            clear c6
            by_cases c7 : ((rd_T59 l0 x6_1).f1) < a1_0
            · rw [if_pos c7] at H
              have c7b0 : decide (((rd_T59 l0 x6_1).f1) < a1_0) = true := decide_eq_true c7
              clear c7
              by_cases c8 : x5_1.length < 8796093022208
              · rw [if_pos c8] at H
                have LMc8 := Aside0.mk c8
                clear c8
                obtain ⟨y104, hy104⟩ : ∃ y_ : List (S59), y_ = (x5_1 ++ [(⟨(rd_T59 l0 x6_1).f0, (rd_T59 l0 x6_1).f1⟩ : S59)]) := ⟨_, rfl⟩
                replace H : (spec_l2Add.l0 k1 l0 y104 (wrap64 (x6_1 + 1)) a1_0 a1_1) = some r := by first | (rw [hy104]; with_reducible exact H) | (have H2_ := (Option.bind_some _ _).symm.trans H; rw [hy104]; with_reducible exact H2_) | (have H2_ := (Option.bind_some _ _).symm.trans H; with_reducible exact H2_) | with_reducible exact H | (rw [hy104]; exact H) | exact H
                have Ny104 := Aside0.mk hy104
                clear hy104
                have H' := Aside0.mk H
                clear H
                try go_wp2
                have n0_ := Aside0.mk (Kd.R_drew HO_5.out)
                have n1_ := Aside0.mk (blk_drew BK101.out)
                have n2_ := Aside0.mk (below_drew1 HB.out)
                clear HO_5
                clear BK101
                clear HB
                have HO_5 := n0_
                have BK101 := n1_
                have HB := n2_
                clear n0_ n1_ n2_
                have p102 : 0 ≤ (x6_1 : Int) := of_decide_eq_true (by first | (with_reducible assumption) | assumption)
                have q102 : x6_1 < (l0.length : Int) := of_decide_eq_true (by first | (with_reducible assumption) | assumption)
                obtain ⟨ad102, e102, hx102_0, hx102_1⟩ := at_T59 HR0.out x6_1 p102 q102
                have hw102_1 := hx102_1
                have hw102_0 := hx102_0
                cases e102
                replace hx102_0 := (HB.out.cell (World.block_lt_of_cell? w _ hx102_0)).trans hx102_0
                replace hx102_1 := (HB.out.cell (World.block_lt_of_cell? w _ hx102_1)).trans hx102_1
                replace p102 := eq_true p102
                replace q102 := eq_true q102
                refine start_ (n := 14) (S := fun w' => w'.cell? ⟨gb101, 0, none⟩ = some (.int .i64 a1_0) ∧ w'.cell? ⟨gb101, 1, none⟩ = some (.int .i64 a1_1) ∧ w'.cell? (ad102.add ((x6_1).toNat * 2)) = some (.int .i64 ((rd_T59 l0 x6_1).f0)) ∧ w'.cell? ⟨(ad102.add ((x6_1).toNat * 2)).block, (ad102.add ((x6_1).toNat * 2)).off + 1, none⟩ = some (.int .i64 ((rd_T59 l0 x6_1).f1))) (ds := []) #[false, false, false, false, false, false, false, false, false, false, false, false, false, false] (by kernel_rfl) rfl rfl ⟨(blk_cell BK101.out 0).trans rfl, (blk_cell BK101.out 1).trans rfl, ((HB.out.cell (World.block_lt_of_cell? w _ hw102_0)).trans hw102_0), ((HB.out.cell (World.block_lt_of_cell? w _ hw102_1)).trans hw102_1)⟩ (fun hHeld => ?_); refine with_tabW spec_l2Add.tab3 spec_l2Add.bits3 (fun HT_ HW_ => ?_)
                generalize wr.drew = w9 at HO_5 BK101 HB hx102_0 hx102_1 hHeld ⊢
                refine pure_ (i := 0) (N := some 7) (v := ?_) (a' := ?_) #[true, false, false, false, false, false, false, false, false, false, false, false, false, false] rfl rfl (any_of HT_.out (by kernel_rfl)) (fun _ _ _ h => h) (Or.inl ⟨by rfl, ?_⟩) ?_ ?_
                rotate_left
                · intro w'
                  go_simp
                  with_reducible rfl
                rotate_left
                · simp only [Act.put, List.setIfInBounds_toArray, List.set_cons_zero, List.set_cons_succ, i64_w, i32_w]
                  rfl
                refine pure_ (i := 1) (N := some 8) (v := ?_) (a' := ?_) #[true, true, false, false, false, false, false, false, false, false, false, false, false, false] rfl rfl (any_of HT_.out (by kernel_rfl)) (fun _ _ _ h => h) (Or.inl ⟨by rfl, ?_⟩) ?_ ?_
                rotate_left
                · intro w'
                  go_simp
                  with_reducible rfl
                rotate_left
                · simp only [Act.put, List.setIfInBounds_toArray, List.set_cons_zero, List.set_cons_succ, i64_w, i32_w]
                  rfl
                refine pure_ (i := 2) (N := some 9) (v := ?_) (a' := ?_) #[true, true, true, false, false, false, false, false, false, false, false, false, false, false] rfl rfl (any_of HT_.out (by kernel_rfl)) (fun _ _ _ h => h) (Or.inl ⟨by rfl, ?_⟩) ?_ ?_
                rotate_left
                · intro w'
                  go_simp
                  with_reducible rfl
                rotate_left
                · simp only [Act.put, List.setIfInBounds_toArray, List.set_cons_zero, List.set_cons_succ, i64_w, i32_w]
                  rfl
                refine pure_ (i := 3) (N := some 10) (v := ?_) (a' := ?_) #[true, true, true, true, false, false, false, false, false, false, false, false, false, false] rfl rfl (any_of HT_.out (by kernel_rfl)) (fun _ _ _ h => h) (Or.inl ⟨by rfl, ?_⟩) ?_ ?_
                rotate_left
                · intro w'
                  go_simp
                  with_reducible rfl
                rotate_left
                · simp only [Act.put, List.setIfInBounds_toArray, List.set_cons_zero, List.set_cons_succ, i64_w, i32_w]
                  rfl
                refine pure_ (i := 4) (N := some 11) (v := ?_) (a' := ?_) #[true, true, true, true, true, false, false, false, false, false, false, false, false, false] rfl rfl (any_of HT_.out (by kernel_rfl)) (fun _ _ _ h => h) (Or.inl ⟨by rfl, ?_⟩) ?_ ?_
                rotate_left
                · intro w'
                  go_simp
                  with_reducible rfl
                rotate_left
                · simp only [Act.put, List.setIfInBounds_toArray, List.set_cons_zero, List.set_cons_succ, i64_w, i32_w]
                  rfl
                refine pure_ (i := 5) (N := some 12) (v := ?_) (a' := ?_) #[true, true, true, true, true, true, false, false, false, false, false, false, false, false] rfl rfl (any_of HT_.out (by kernel_rfl)) (fun _ _ _ h => h) (Or.inl ⟨by rfl, ?_⟩) ?_ ?_
                rotate_left
                · intro w'
                  go_simp
                  with_reducible rfl
                rotate_left
                · simp only [Act.put, List.setIfInBounds_toArray, List.set_cons_zero, List.set_cons_succ, i64_w, i32_w]
                  rfl
                refine pure_ (i := 6) (N := some 13) (v := ?_) (a' := ?_) #[true, true, true, true, true, true, true, false, false, false, false, false, false, false] rfl rfl (any_of HT_.out (by kernel_rfl)) (fun _ _ _ h => h) (Or.inl ⟨by rfl, ?_⟩) ?_ ?_
                rotate_left
                · intro w'
                  go_simp
                  with_reducible rfl
                rotate_left
                · simp only [Act.put, List.setIfInBounds_toArray, List.set_cons_zero, List.set_cons_succ, i64_w, i32_w]
                  rfl
                refine pure_ (i := 7) (N := some 14) (v := ?_) (a' := ?_) #[true, true, true, true, true, true, true, true, false, false, false, false, false, false] rfl rfl (any_of HT_.out (by kernel_rfl)) (fun _ _ _ h => h) (Or.inl ⟨by rfl, ?_⟩) ?_ ?_
                rotate_left
                · intro w'
                  go_simp
                  with_reducible rfl
                rotate_left
                · simp only [Act.put, List.setIfInBounds_toArray, List.set_cons_zero, List.set_cons_succ, i64_w, i32_w]
                  rfl
                refine pure_ (i := 8) (N := some 15) (v := ?_) (a' := ?_) #[true, true, true, true, true, true, true, true, true, false, false, false, false, false] rfl rfl (any_of HT_.out (by kernel_rfl)) (fun _ _ _ h => h) (Or.inl ⟨by rfl, ?_⟩) ?_ ?_
                rotate_left
                · intro w'
                  go_simp
                  with_reducible rfl
                rotate_left
                · simp only [Act.put, List.setIfInBounds_toArray, List.set_cons_zero, List.set_cons_succ, i64_w, i32_w]
                  rfl
                refine pure_ (i := 10) (N := some 17) (v := ?_) (a' := ?_) #[true, true, true, true, true, true, true, true, true, false, true, false, false, false] rfl rfl (any_of HT_.out (by kernel_rfl)) (fun _ _ _ h => h) (Or.inl ⟨by rfl, ?_⟩) ?_ ?_
                rotate_left
                · intro w'
                  go_simp
                  with_reducible rfl
                rotate_left
                · simp only [Act.put, List.setIfInBounds_toArray, List.set_cons_zero, List.set_cons_succ, i64_w, i32_w]
                  rfl
                refine take_ (i := 9) (N := some 16) (v := ?_) (a' := ?_) #[true, true, true, true, true, true, true, true, true, true, true, false, false, false] rfl rfl (take_ofW HT_.out HW_.out (by kernel_rfl)) (fun _ _ _ h => h) (Or.inl ⟨by rfl, ?_⟩) hHeld ?_ ?_
                rotate_left
                · rintro w' ⟨s0, s1, s2, s3⟩
                  go_simp
                  with_reducible rfl
                rotate_left
                · simp only [Act.put, List.setIfInBounds_toArray, List.set_cons_zero, List.set_cons_succ, i64_w, i32_w]
                  rfl
                refine take_ (i := 11) (N := some 18) (v := ?_) (a' := ?_) #[true, true, true, true, true, true, true, true, true, true, true, true, false, false] rfl rfl (take_ofW HT_.out HW_.out (by kernel_rfl)) (fun _ _ _ h => h) (Or.inl ⟨by rfl, ?_⟩) hHeld ?_ ?_
                rotate_left
                · rintro w' ⟨s0, s1, s2, s3⟩
                  go_simp
                  with_reducible rfl
                rotate_left
                · simp only [Act.put, List.setIfInBounds_toArray, List.set_cons_zero, List.set_cons_succ, i64_w, i32_w]
                  rfl
                refine pure_ (i := 12) (N := some 19) (v := ?_) (a' := ?_) #[true, true, true, true, true, true, true, true, true, true, true, true, true, false] rfl rfl (any_of HT_.out (by kernel_rfl)) (fun _ _ _ h => h) (Or.inl ⟨by rfl, ?_⟩) ?_ ?_
                rotate_left
                · intro w'
                  go_simp
                  with_reducible rfl
                rotate_left
                · simp only [Act.put, List.setIfInBounds_toArray, List.set_cons_zero, List.set_cons_succ, i64_w, i32_w]
                  rfl
                refine pure_ (i := 13) (N := some 20) (v := ?_) (a' := ?_) #[true, true, true, true, true, true, true, true, true, true, true, true, true, true] rfl rfl (any_of HT_.out (by kernel_rfl)) (fun _ _ _ h => h) (Or.inl ⟨by rfl, ?_⟩) ?_ ?_
                rotate_left
                · intro w'
                  go_simp
                  with_reducible rfl
                rotate_left
                · simp only [Act.put, List.setIfInBounds_toArray, List.set_cons_zero, List.set_cons_succ, i64_w, i32_w]
                  rfl
                refine done_ (done_of HT_.out (by kernel_rfl)) ?_
                have p103 : 0 ≤ (x6_1 : Int) := of_decide_eq_true (by first | (with_reducible assumption) | assumption)
                have q103 : x6_1 < (l0.length : Int) := of_decide_eq_true (by first | (with_reducible assumption) | assumption)
                obtain ⟨ad103, e103, hx103_0, hx103_1⟩ := at_T59 HR0.out x6_1 p103 q103
                obtain rfl : ad102 = ad103 := (by injection e103)
                replace hx103_0 := (HB.out.cell (World.block_lt_of_cell? w _ hx103_0)).trans hx103_0
                replace hx103_1 := (HB.out.cell (World.block_lt_of_cell? w _ hx103_1)).trans hx103_1
                replace p103 := eq_true p103
                replace q103 := eq_true q103
                try go_wp2_with (first | ((with_reducible refine gate_builtin (b := .append) (xs := #[.tmp 21, .tmp 26]) rfl ?_); at_builtin; refine Kd.R_append k59 (w0 := w) w.heap.size rfl (.tmp 21) (.tmp 26) 29 59 (.agg #[(.int .i64 0), (.int .i64 0)]) 16 rfl Try.underlying29 info59 rfl (by decide) (by omega) u5 x5_1 (⟨(rd_T59 l0 x6_1).f0, (rd_T59 l0 x6_1).f1⟩ : S59) [.int .i64 ((rd_T59 l0 x6_1).f0), .int .i64 ((rd_T59 l0 x6_1).f1)] (fun k_ => k_ ≠ gb101) (fun _ => False) rfl rfl ?aP (fun _ hk => hk.elim) ?aF ?aO ?aB ?aS ?aL ?_; (case aP => exact k59_mkM _ _ _ (⟨(rd_T59 l0 x6_1).f0, (rd_T59 l0 x6_1).f1⟩ : S59)); (case aB => exact (by repeat (first | (with_reducible first | exact HB.out | apply below_alloc | apply pw_below_drewN | apply below_drew1 | refine below_set ?_ GE101.out) | exact HB.out))); (case aF => exact (fun k_ hk => Kd.freshB (g := gb101) (o := .cells #[.int .i64 a1_0, .int .i64 a1_1] 59 (0, 0)) (by (with_reducible repeat first | apply blk_drewN | apply blk_drew | apply blk_alloc); exact BK101.out) k_ hk)); (case aO => exact (by (with_reducible repeat (first | apply Kd.R_alloc | apply Kd.R_drewN | apply Kd.R_drew)); exact HO_5.out)); (case aS => exact (below_size (by repeat (first | (with_reducible first | exact HB.out | apply below_alloc | apply pw_below_drewN | apply below_drew1 | refine below_set ?_ GE101.out) | exact HB.out)))); (case aL => have := LMc8.out; omega); intro v105 w10 ho hb hg hat; rw [← Ny104.out] at ho; have n0_ := Aside0.mk (blk_grown (g := gb101) (o := .cells #[.int .i64 a1_0, .int .i64 a1_1] 59 (0, 0)) (by (with_reducible repeat first | apply blk_drewN | apply blk_drew | apply blk_alloc); exact BK101.out) hg (Kd.R_away HO_5.out (fun _ hk => hk))); have n1_ := Aside0.mk (hb); have n2_ := Aside0.mk (ho); clear BK101; clear HB; clear HO_5; have BK101 := n0_; have HB := n1_; have HO106 := n2_; clear n0_ n1_ n2_; clear ho hb hg hat))
                go_roundg k1
                case measure => have := HK1.out; omega
                case rel => exact ⟨(y104), (wrap64 (x6_1 + 1)), (by first | rfl | (simp; done) | (simp [*]; done)), H', ⟨by have := HK1.out; omega⟩, ⟨by (with_reducible repeat (first | apply Kd.R_alloc | apply Kd.R_drewN | apply Kd.R_drew)); exact HO106.out⟩, ⟨by (with_reducible repeat first | apply blk_drewN | apply blk_drew | apply blk_alloc); exact BK101.out⟩, ⟨by repeat (first | (with_reducible first | exact HB.out | apply below_alloc | apply pw_below_drewN | apply below_drew1 | refine below_set ?_ GE101.out) | exact HB.out)⟩⟩
              · rw [if_neg c8] at H
                exact absurd H (by simp)
            · rw [if_neg c7] at H
              have c7b0 : decide (((rd_T59 l0 x6_1).f1) < a1_0) = false := decide_eq_false c7
              clear c7
              have H' := Aside0.mk H
              clear H
              try go_wp2
              have n0_ := Aside0.mk (Kd.R_drew HO_5.out)
              have n1_ := Aside0.mk (blk_drew BK101.out)
              have n2_ := Aside0.mk (below_drew1 HB.out)
              clear HO_5
              clear BK101
              clear HB
              have HO_5 := n0_
              have BK101 := n1_
              have HB := n2_
              clear n0_ n1_ n2_
              have p102 : 0 ≤ (x6_1 : Int) := of_decide_eq_true (by first | (with_reducible assumption) | assumption)
              have q102 : x6_1 < (l0.length : Int) := of_decide_eq_true (by first | (with_reducible assumption) | assumption)
              obtain ⟨ad102, e102, hx102_0, hx102_1⟩ := at_T59 HR0.out x6_1 p102 q102
              have hw102_1 := hx102_1
              have hw102_0 := hx102_0
              cases e102
              replace hx102_0 := (HB.out.cell (World.block_lt_of_cell? w _ hx102_0)).trans hx102_0
              replace hx102_1 := (HB.out.cell (World.block_lt_of_cell? w _ hx102_1)).trans hx102_1
              replace p102 := eq_true p102
              replace q102 := eq_true q102
              refine start_ (n := 14) (S := fun w' => w'.cell? ⟨gb101, 0, none⟩ = some (.int .i64 a1_0) ∧ w'.cell? ⟨gb101, 1, none⟩ = some (.int .i64 a1_1) ∧ w'.cell? (ad102.add ((x6_1).toNat * 2)) = some (.int .i64 ((rd_T59 l0 x6_1).f0)) ∧ w'.cell? ⟨(ad102.add ((x6_1).toNat * 2)).block, (ad102.add ((x6_1).toNat * 2)).off + 1, none⟩ = some (.int .i64 ((rd_T59 l0 x6_1).f1))) (ds := []) #[false, false, false, false, false, false, false, false, false, false, false, false, false, false] (by kernel_rfl) rfl rfl ⟨(blk_cell BK101.out 0).trans rfl, (blk_cell BK101.out 1).trans rfl, ((HB.out.cell (World.block_lt_of_cell? w _ hw102_0)).trans hw102_0), ((HB.out.cell (World.block_lt_of_cell? w _ hw102_1)).trans hw102_1)⟩ (fun hHeld => ?_); refine with_tabW spec_l2Add.tab3 spec_l2Add.bits3 (fun HT_ HW_ => ?_)
              generalize wr.drew = w11 at HO_5 BK101 HB hx102_0 hx102_1 hHeld ⊢
              refine pure_ (i := 0) (N := some 7) (v := ?_) (a' := ?_) #[true, false, false, false, false, false, false, false, false, false, false, false, false, false] rfl rfl (any_of HT_.out (by kernel_rfl)) (fun _ _ _ h => h) (Or.inl ⟨by rfl, ?_⟩) ?_ ?_
              rotate_left
              · intro w'
                go_simp
                with_reducible rfl
              rotate_left
              · simp only [Act.put, List.setIfInBounds_toArray, List.set_cons_zero, List.set_cons_succ, i64_w, i32_w]
                rfl
              refine pure_ (i := 1) (N := some 8) (v := ?_) (a' := ?_) #[true, true, false, false, false, false, false, false, false, false, false, false, false, false] rfl rfl (any_of HT_.out (by kernel_rfl)) (fun _ _ _ h => h) (Or.inl ⟨by rfl, ?_⟩) ?_ ?_
              rotate_left
              · intro w'
                go_simp
                with_reducible rfl
              rotate_left
              · simp only [Act.put, List.setIfInBounds_toArray, List.set_cons_zero, List.set_cons_succ, i64_w, i32_w]
                rfl
              refine pure_ (i := 2) (N := some 9) (v := ?_) (a' := ?_) #[true, true, true, false, false, false, false, false, false, false, false, false, false, false] rfl rfl (any_of HT_.out (by kernel_rfl)) (fun _ _ _ h => h) (Or.inl ⟨by rfl, ?_⟩) ?_ ?_
              rotate_left
              · intro w'
                go_simp
                with_reducible rfl
              rotate_left
              · simp only [Act.put, List.setIfInBounds_toArray, List.set_cons_zero, List.set_cons_succ, i64_w, i32_w]
                rfl
              refine pure_ (i := 3) (N := some 10) (v := ?_) (a' := ?_) #[true, true, true, true, false, false, false, false, false, false, false, false, false, false] rfl rfl (any_of HT_.out (by kernel_rfl)) (fun _ _ _ h => h) (Or.inl ⟨by rfl, ?_⟩) ?_ ?_
              rotate_left
              · intro w'
                go_simp
                with_reducible rfl
              rotate_left
              · simp only [Act.put, List.setIfInBounds_toArray, List.set_cons_zero, List.set_cons_succ, i64_w, i32_w]
                rfl
              refine pure_ (i := 4) (N := some 11) (v := ?_) (a' := ?_) #[true, true, true, true, true, false, false, false, false, false, false, false, false, false] rfl rfl (any_of HT_.out (by kernel_rfl)) (fun _ _ _ h => h) (Or.inl ⟨by rfl, ?_⟩) ?_ ?_
              rotate_left
              · intro w'
                go_simp
                with_reducible rfl
              rotate_left
              · simp only [Act.put, List.setIfInBounds_toArray, List.set_cons_zero, List.set_cons_succ, i64_w, i32_w]
                rfl
              refine pure_ (i := 5) (N := some 12) (v := ?_) (a' := ?_) #[true, true, true, true, true, true, false, false, false, false, false, false, false, false] rfl rfl (any_of HT_.out (by kernel_rfl)) (fun _ _ _ h => h) (Or.inl ⟨by rfl, ?_⟩) ?_ ?_
              rotate_left
              · intro w'
                go_simp
                with_reducible rfl
              rotate_left
              · simp only [Act.put, List.setIfInBounds_toArray, List.set_cons_zero, List.set_cons_succ, i64_w, i32_w]
                rfl
              refine pure_ (i := 6) (N := some 13) (v := ?_) (a' := ?_) #[true, true, true, true, true, true, true, false, false, false, false, false, false, false] rfl rfl (any_of HT_.out (by kernel_rfl)) (fun _ _ _ h => h) (Or.inl ⟨by rfl, ?_⟩) ?_ ?_
              rotate_left
              · intro w'
                go_simp
                with_reducible rfl
              rotate_left
              · simp only [Act.put, List.setIfInBounds_toArray, List.set_cons_zero, List.set_cons_succ, i64_w, i32_w]
                rfl
              refine pure_ (i := 7) (N := some 14) (v := ?_) (a' := ?_) #[true, true, true, true, true, true, true, true, false, false, false, false, false, false] rfl rfl (any_of HT_.out (by kernel_rfl)) (fun _ _ _ h => h) (Or.inl ⟨by rfl, ?_⟩) ?_ ?_
              rotate_left
              · intro w'
                go_simp
                with_reducible rfl
              rotate_left
              · simp only [Act.put, List.setIfInBounds_toArray, List.set_cons_zero, List.set_cons_succ, i64_w, i32_w]
                rfl
              refine pure_ (i := 8) (N := some 15) (v := ?_) (a' := ?_) #[true, true, true, true, true, true, true, true, true, false, false, false, false, false] rfl rfl (any_of HT_.out (by kernel_rfl)) (fun _ _ _ h => h) (Or.inl ⟨by rfl, ?_⟩) ?_ ?_
              rotate_left
              · intro w'
                go_simp
                with_reducible rfl
              rotate_left
              · simp only [Act.put, List.setIfInBounds_toArray, List.set_cons_zero, List.set_cons_succ, i64_w, i32_w]
                rfl
              refine pure_ (i := 10) (N := some 17) (v := ?_) (a' := ?_) #[true, true, true, true, true, true, true, true, true, false, true, false, false, false] rfl rfl (any_of HT_.out (by kernel_rfl)) (fun _ _ _ h => h) (Or.inl ⟨by rfl, ?_⟩) ?_ ?_
              rotate_left
              · intro w'
                go_simp
                with_reducible rfl
              rotate_left
              · simp only [Act.put, List.setIfInBounds_toArray, List.set_cons_zero, List.set_cons_succ, i64_w, i32_w]
                rfl
              refine take_ (i := 9) (N := some 16) (v := ?_) (a' := ?_) #[true, true, true, true, true, true, true, true, true, true, true, false, false, false] rfl rfl (take_ofW HT_.out HW_.out (by kernel_rfl)) (fun _ _ _ h => h) (Or.inl ⟨by rfl, ?_⟩) hHeld ?_ ?_
              rotate_left
              · rintro w' ⟨s0, s1, s2, s3⟩
                go_simp
                with_reducible rfl
              rotate_left
              · simp only [Act.put, List.setIfInBounds_toArray, List.set_cons_zero, List.set_cons_succ, i64_w, i32_w]
                rfl
              refine take_ (i := 11) (N := some 18) (v := ?_) (a' := ?_) #[true, true, true, true, true, true, true, true, true, true, true, true, false, false] rfl rfl (take_ofW HT_.out HW_.out (by kernel_rfl)) (fun _ _ _ h => h) (Or.inl ⟨by rfl, ?_⟩) hHeld ?_ ?_
              rotate_left
              · rintro w' ⟨s0, s1, s2, s3⟩
                go_simp
                with_reducible rfl
              rotate_left
              · simp only [Act.put, List.setIfInBounds_toArray, List.set_cons_zero, List.set_cons_succ, i64_w, i32_w]
                rfl
              refine pure_ (i := 12) (N := some 19) (v := ?_) (a' := ?_) #[true, true, true, true, true, true, true, true, true, true, true, true, true, false] rfl rfl (any_of HT_.out (by kernel_rfl)) (fun _ _ _ h => h) (Or.inl ⟨by rfl, ?_⟩) ?_ ?_
              rotate_left
              · intro w'
                go_simp
                with_reducible rfl
              rotate_left
              · simp only [Act.put, List.setIfInBounds_toArray, List.set_cons_zero, List.set_cons_succ, i64_w, i32_w]
                rfl
              refine pure_ (i := 13) (N := some 20) (v := ?_) (a' := ?_) #[true, true, true, true, true, true, true, true, true, true, true, true, true, true] rfl rfl (any_of HT_.out (by kernel_rfl)) (fun _ _ _ h => h) (Or.inl ⟨by rfl, ?_⟩) ?_ ?_
              rotate_left
              · intro w'
                go_simp
                with_reducible rfl
              rotate_left
              · simp only [Act.put, List.setIfInBounds_toArray, List.set_cons_zero, List.set_cons_succ, i64_w, i32_w]
                rfl
              refine done_ (done_of HT_.out (by kernel_rfl)) ?_
              try go_wp2
              go_meet
              case rel => exact ⟨_, (x5_1), (x6_1), (by first | rfl | (simp; done) | (simp [*]; done)), H', ⟨by have := HK1.out; first | omega | exact Nat.le_refl _⟩, ⟨by (with_reducible repeat (first | apply Kd.R_alloc | apply Kd.R_drewN | apply Kd.R_drew)); exact HO_5.out⟩, ⟨by (with_reducible repeat first | apply blk_drewN | apply blk_drew | apply blk_alloc); exact BK101.out⟩, ⟨by repeat (first | (with_reducible first | exact HB.out | apply below_alloc | apply pw_below_drewN | apply below_drew1 | refine below_set ?_ GE101.out) | exact HB.out)⟩⟩
          · rw [if_neg c6] at H
            exact absurd H (by simp)
        · rw [if_neg c5] at H
          have c5b0 : decide (x6_1 < (l0.length : Int)) = false := decide_eq_false c5
          clear c5
          (first | rw [c5b0] | (simp only [i64_w, i32_w]; rw [c5b0]) | skip)
          have H' := Aside0.mk H
          clear H
          try go_wp2
          have n0_ := Aside0.mk (Kd.R_drew HO_5.out)
          have n1_ := Aside0.mk (blk_drew BK101.out)
          have n2_ := Aside0.mk (below_drew1 HB.out)
          clear HO_5
          clear BK101
          clear HB
          have HO_5 := n0_
          have BK101 := n1_
          have HB := n2_
          clear n0_ n1_ n2_
          refine start_ (n := 14) (S := fun w' => True) (ds := []) #[false, false, false, false, false, false, false, false, false, false, false, false, false, false] (by kernel_rfl) rfl rfl trivial (fun hHeld => ?_); refine with_tabW spec_l2Add.tab3 spec_l2Add.bits3 (fun HT_ HW_ => ?_)
          generalize wr.drew = w12 at HO_5 BK101 HB hHeld ⊢
          refine pure_ (i := 0) (N := some 7) (v := ?_) (a' := ?_) #[true, false, false, false, false, false, false, false, false, false, false, false, false, false] rfl rfl (any_of HT_.out (by kernel_rfl)) (fun _ _ _ h => h) (Or.inl ⟨by rfl, ?_⟩) ?_ ?_
          rotate_left
          · intro w'
            go_simp
            with_reducible rfl
          rotate_left
          · simp only [Act.put, List.setIfInBounds_toArray, List.set_cons_zero, List.set_cons_succ, i64_w, i32_w]
            rfl
          refine pure_ (i := 1) (N := some 8) (v := ?_) (a' := ?_) #[true, true, false, false, false, false, false, false, false, false, false, false, false, false] rfl rfl (any_of HT_.out (by kernel_rfl)) (fun _ _ _ h => h) (Or.inl ⟨by rfl, ?_⟩) ?_ ?_
          rotate_left
          · intro w'
            go_simp
            with_reducible rfl
          rotate_left
          · simp only [Act.put, List.setIfInBounds_toArray, List.set_cons_zero, List.set_cons_succ, i64_w, i32_w]
            rfl
          refine pure_ (i := 2) (N := some 9) (v := ?_) (a' := ?_) #[true, true, true, false, false, false, false, false, false, false, false, false, false, false] rfl rfl (any_of HT_.out (by kernel_rfl)) (fun _ _ _ h => h) (Or.inl ⟨by rfl, ?_⟩) ?_ ?_
          rotate_left
          · intro w'
            go_simp
            with_reducible rfl
          rotate_left
          · simp only [Act.put, List.setIfInBounds_toArray, List.set_cons_zero, List.set_cons_succ, i64_w, i32_w]
            rfl
          refine pure_ (i := 3) (N := some 10) (v := ?_) (a' := ?_) #[true, true, true, true, false, false, false, false, false, false, false, false, false, false] rfl rfl (any_of HT_.out (by kernel_rfl)) (fun _ _ _ h => h) (Or.inl ⟨by rfl, ?_⟩) ?_ ?_
          rotate_left
          · intro w'
            go_simp
            with_reducible rfl
          rotate_left
          · simp only [Act.put, List.setIfInBounds_toArray, List.set_cons_zero, List.set_cons_succ, i64_w, i32_w]
            rfl
          refine pure_ (i := 4) (N := some 11) (v := ?_) (a' := ?_) #[true, true, true, true, true, false, false, false, false, false, false, false, false, false] rfl rfl (any_of HT_.out (by kernel_rfl)) (fun _ _ _ h => h) (Or.inl ⟨by rfl, ?_⟩) ?_ ?_
          rotate_left
          · intro w'
            go_simp
            with_reducible rfl
          rotate_left
          · simp only [Act.put, List.setIfInBounds_toArray, List.set_cons_zero, List.set_cons_succ, i64_w, i32_w]
            rfl
          refine pure_ (i := 5) (N := some 12) (v := undef) (a' := ?_) #[true, true, true, true, true, true, false, false, false, false, false, false, false, false] rfl rfl (any_of HT_.out (by kernel_rfl)) (fun _ _ _ h => h) (Or.inr ⟨by rfl, rfl⟩) ?_ ?_
          rotate_left
          · simp only [Act.put, List.setIfInBounds_toArray, List.set_cons_zero, List.set_cons_succ, i64_w, i32_w]
            rfl
          refine pure_ (i := 6) (N := some 13) (v := undef) (a' := ?_) #[true, true, true, true, true, true, true, false, false, false, false, false, false, false] rfl rfl (any_of HT_.out (by kernel_rfl)) (fun _ _ _ h => h) (Or.inr ⟨by rfl, rfl⟩) ?_ ?_
          rotate_left
          · simp only [Act.put, List.setIfInBounds_toArray, List.set_cons_zero, List.set_cons_succ, i64_w, i32_w]
            rfl
          refine pure_ (i := 7) (N := some 14) (v := undef) (a' := ?_) #[true, true, true, true, true, true, true, true, false, false, false, false, false, false] rfl rfl (any_of HT_.out (by kernel_rfl)) (fun _ _ _ h => h) (Or.inr ⟨by rfl, rfl⟩) ?_ ?_
          rotate_left
          · simp only [Act.put, List.setIfInBounds_toArray, List.set_cons_zero, List.set_cons_succ, i64_w, i32_w]
            rfl
          refine pure_ (i := 8) (N := some 15) (v := undef) (a' := ?_) #[true, true, true, true, true, true, true, true, true, false, false, false, false, false] rfl rfl (any_of HT_.out (by kernel_rfl)) (fun _ _ _ h => h) (Or.inr ⟨by rfl, rfl⟩) ?_ ?_
          rotate_left
          · simp only [Act.put, List.setIfInBounds_toArray, List.set_cons_zero, List.set_cons_succ, i64_w, i32_w]
            rfl
          refine pure_ (i := 9) (N := some 16) (v := undef) (a' := ?_) #[true, true, true, true, true, true, true, true, true, true, false, false, false, false] rfl rfl (any_of HT_.out (by kernel_rfl)) (fun _ _ _ h => h) (Or.inr ⟨by rfl, rfl⟩) ?_ ?_
          rotate_left
          · simp only [Act.put, List.setIfInBounds_toArray, List.set_cons_zero, List.set_cons_succ, i64_w, i32_w]
            rfl
          refine pure_ (i := 10) (N := some 17) (v := undef) (a' := ?_) #[true, true, true, true, true, true, true, true, true, true, true, false, false, false] rfl rfl (any_of HT_.out (by kernel_rfl)) (fun _ _ _ h => h) (Or.inr ⟨by rfl, rfl⟩) ?_ ?_
          rotate_left
          · simp only [Act.put, List.setIfInBounds_toArray, List.set_cons_zero, List.set_cons_succ, i64_w, i32_w]
            rfl
          refine pure_ (i := 11) (N := some 18) (v := undef) (a' := ?_) #[true, true, true, true, true, true, true, true, true, true, true, true, false, false] rfl rfl (any_of HT_.out (by kernel_rfl)) (fun _ _ _ h => h) (Or.inr ⟨by rfl, rfl⟩) ?_ ?_
          rotate_left
          · simp only [Act.put, List.setIfInBounds_toArray, List.set_cons_zero, List.set_cons_succ, i64_w, i32_w]
            rfl
          refine pure_ (i := 12) (N := some 19) (v := undef) (a' := ?_) #[true, true, true, true, true, true, true, true, true, true, true, true, true, false] rfl rfl (any_of HT_.out (by kernel_rfl)) (fun _ _ _ h => h) (Or.inr ⟨by rfl, rfl⟩) ?_ ?_
          rotate_left
          · simp only [Act.put, List.setIfInBounds_toArray, List.set_cons_zero, List.set_cons_succ, i64_w, i32_w]
            rfl
          refine pure_ (i := 13) (N := some 20) (v := ?_) (a' := ?_) #[true, true, true, true, true, true, true, true, true, true, true, true, true, true] rfl rfl (any_of HT_.out (by kernel_rfl)) (fun _ _ _ h => h) (Or.inl ⟨by rfl, ?_⟩) ?_ ?_
          rotate_left
          · intro w'
            go_simp
            with_reducible rfl
          rotate_left
          · simp only [Act.put, List.setIfInBounds_toArray, List.set_cons_zero, List.set_cons_succ, i64_w, i32_w]
            rfl
          refine done_ (done_of HT_.out (by kernel_rfl)) ?_
          try go_wp2
          go_meet
          case rel => exact ⟨_, (x5_1), (x6_1), (by first | rfl | (simp; done) | (simp [*]; done)), H', ⟨by have := HK1.out; first | omega | exact Nat.le_refl _⟩, ⟨by (with_reducible repeat (first | apply Kd.R_alloc | apply Kd.R_drewN | apply Kd.R_drew)); exact HO_5.out⟩, ⟨by (with_reducible repeat first | apply blk_drewN | apply blk_drew | apply blk_alloc); exact BK101.out⟩, ⟨by repeat (first | (with_reducible first | exact HB.out | apply below_alloc | apply pw_below_drewN | apply below_drew1 | refine below_set ?_ GE101.out) | exact HB.out)⟩⟩
  case rest =>
    clear HC3
    try clear p1
    try clear q1
    try clear hx1
    try clear p2
    try clear c5
    try clear c5b0
    try clear c6
    try clear c6b0
    try clear p6
    try clear c7
    try clear c7b0
    try clear c8
    try clear p10
    try clear q10
    try clear hx10
    try clear hx102_0
    try clear hx102_1
    try clear hx103_0
    try clear hx103_1
    try clear p102
    try clear p103
    try clear p2
    try clear q102
    try clear q103
    obtain ⟨kq, x5_2, x6_2, rfl, HA, HJ2, HO_5, BK101, HB⟩ := hcut
    cases kq with
    | zero => exact absurd HA.out (by simp [spec_l2Add.j1])
    | succ kj2 =>
      have H := HA.out
      clear HA
      simp only [spec_l2Add.j1] at H
      have H' := Aside0.mk H
      clear H
      go_wp2
      go_loopg [6] kj2 (fun kq v6 w' => ∃ (x6_2 : Int) (x102000_2 : Int) (x102001_2 : Int), v6 = .int .i64 x6_2 ∧ Aside0 (spec_l2Add.l1 kq l0 x5_2 x6_2 x102000_2 x102001_2 = some r) ∧ Aside0 (kq ≤ kj2) ∧ Aside0 (Kd.R k59 59 w' w.heap.size (fun k_ => k_ ≠ gb101) u5 x5_2) ∧ Aside0 (w'.heap[gb101]? = some (.cells #[.int .i64 x102000_2, .int .i64 x102001_2] 59 (0, 0))) ∧ Aside0 (Below w.heap.size w w'))
      case atStart => exact ⟨(x6_2), (a1_0), (a1_1), (by first | rfl | (simp; done) | (simp [*]; done)), H', ⟨Nat.le_refl _⟩, ⟨by (with_reducible repeat (first | apply Kd.R_alloc | apply Kd.R_drewN | apply Kd.R_drew)); exact HO_5.out⟩, ⟨by (with_reducible repeat first | apply blk_drewN | apply blk_drew | apply blk_alloc); exact BK101.out⟩, ⟨by repeat (first | (with_reducible first | exact HB.out | apply below_alloc | apply pw_below_drewN | apply below_drew1 | refine below_set ?_ GE101.out) | exact HB.out)⟩⟩
      case round =>
        clear H'
        try clear p1
        try clear q1
        try clear hx1
        try clear p2
        try clear c5
        try clear c5b0
        try clear c6
        try clear c6b0
        try clear p6
        try clear c7
        try clear c7b0
        try clear c8
        try clear p10
        try clear q10
        try clear hx10
        try clear hx102_0
        try clear hx102_1
        try clear hx103_0
        try clear hx103_1
        try clear p1
        try clear p10
        try clear p102
        try clear p103
        try clear p2
        try clear p6
        try clear q1
        try clear q10
        try clear q102
        try clear q103
        obtain ⟨x6_2, x102000_2, x102001_2, rfl, HA, HK2, HO_5, BK101, HB⟩ := hrel
        cases gk with
        | zero => exact absurd HA.out (by simp [spec_l2Add.l1])
        | succ k2 =>
          have H := HA.out
          clear HA
          simp only [spec_l2Add.l1] at H
          have HC13 := Aside0.mk H
          clear H
          go_upto_region 6 with (fail)
          go_cut [43] (fun v43 wc => ∃ (kq : Nat) (x43_12 : Bool), v43 = .bool x43_12 ∧ Aside0 (spec_l2Add.j3 kq l0 x5_2 x6_2 x43_12 x102000_2 x102001_2 = some r) ∧ Aside0 (kq ≤ k2) ∧ Aside0 (Kd.R k59 59 wc w.heap.size (fun k_ => k_ ≠ gb101) u5 x5_2) ∧ Aside0 (wc.heap[gb101]? = some (.cells #[.int .i64 x102000_2, .int .i64 x102001_2] 59 (0, 0))) ∧ Aside0 (Below w.heap.size w wc))
          case first =>
            have H := HC13.out
            clear HC13
            by_cases c14 : x6_2 < (l0.length : Int)
            · rw [if_pos c14] at H
              have c14b0 : decide (x6_2 < (l0.length : Int)) = true := decide_eq_true c14
              clear c14
              (first | rw [c14b0] | (simp only [i64_w, i32_w]; rw [c14b0]) | skip)
              by_cases c15 : 0 ≤ x6_2
              · rw [if_pos c15] at H
                have c15b0 : decide (0 ≤ x6_2) = true := decide_eq_true c15
                clear c15
                have H' := Aside0.mk H
                clear H
                try go_wp2
                have n0_ := Aside0.mk (Kd.R_drew HO_5.out)
                have n1_ := Aside0.mk (blk_drew BK101.out)
                have n2_ := Aside0.mk (below_drew1 HB.out)
                clear HO_5
                clear BK101
                clear HB
                have HO_5 := n0_
                have BK101 := n1_
                have HB := n2_
                clear n0_ n1_ n2_
                have p107 : 0 ≤ (x6_2 : Int) := of_decide_eq_true (by first | (with_reducible assumption) | assumption)
                have q107 : x6_2 < (l0.length : Int) := of_decide_eq_true (by first | (with_reducible assumption) | assumption)
                obtain ⟨ad107, e107, hx107_0, hx107_1⟩ := at_T59 HR0.out x6_2 p107 q107
                have hw107_1 := hx107_1
                have hw107_0 := hx107_0
                cases e107
                replace hx107_0 := (HB.out.cell (World.block_lt_of_cell? w _ hx107_0)).trans hx107_0
                replace hx107_1 := (HB.out.cell (World.block_lt_of_cell? w _ hx107_1)).trans hx107_1
                replace p107 := eq_true p107
                replace q107 := eq_true q107
                refine start_ (n := 14) (S := fun w' => w'.cell? ⟨gb101, 0, none⟩ = some (.int .i64 x102000_2) ∧ w'.cell? ⟨gb101, 1, none⟩ = some (.int .i64 x102001_2) ∧ w'.cell? (ad107.add ((x6_2).toNat * 2)) = some (.int .i64 ((rd_T59 l0 x6_2).f0)) ∧ w'.cell? ⟨(ad107.add ((x6_2).toNat * 2)).block, (ad107.add ((x6_2).toNat * 2)).off + 1, none⟩ = some (.int .i64 ((rd_T59 l0 x6_2).f1))) (ds := []) #[false, false, false, false, false, false, false, false, false, false, false, false, false, false] (by kernel_rfl) rfl rfl ⟨(blk_cell BK101.out 0).trans rfl, (blk_cell BK101.out 1).trans rfl, ((HB.out.cell (World.block_lt_of_cell? w _ hw107_0)).trans hw107_0), ((HB.out.cell (World.block_lt_of_cell? w _ hw107_1)).trans hw107_1)⟩ (fun hHeld => ?_); refine with_tabW spec_l2Add.tab6 spec_l2Add.bits6 (fun HT_ HW_ => ?_)
                generalize wr.drew = w16 at HO_5 BK101 HB hx107_0 hx107_1 hHeld ⊢
                refine pure_ (i := 0) (N := some 30) (v := ?_) (a' := ?_) #[true, false, false, false, false, false, false, false, false, false, false, false, false, false] rfl rfl (any_of HT_.out (by kernel_rfl)) (fun _ _ _ h => h) (Or.inl ⟨by rfl, ?_⟩) ?_ ?_
                rotate_left
                · intro w'
                  go_simp
                  with_reducible rfl
                rotate_left
                · simp only [Act.put, List.setIfInBounds_toArray, List.set_cons_zero, List.set_cons_succ, i64_w, i32_w]
                  rfl
                refine pure_ (i := 1) (N := some 31) (v := ?_) (a' := ?_) #[true, true, false, false, false, false, false, false, false, false, false, false, false, false] rfl rfl (any_of HT_.out (by kernel_rfl)) (fun _ _ _ h => h) (Or.inl ⟨by rfl, ?_⟩) ?_ ?_
                rotate_left
                · intro w'
                  go_simp
                  with_reducible rfl
                rotate_left
                · simp only [Act.put, List.setIfInBounds_toArray, List.set_cons_zero, List.set_cons_succ, i64_w, i32_w]
                  rfl
                refine pure_ (i := 2) (N := some 32) (v := ?_) (a' := ?_) #[true, true, true, false, false, false, false, false, false, false, false, false, false, false] rfl rfl (any_of HT_.out (by kernel_rfl)) (fun _ _ _ h => h) (Or.inl ⟨by rfl, ?_⟩) ?_ ?_
                rotate_left
                · intro w'
                  go_simp
                  with_reducible rfl
                rotate_left
                · simp only [Act.put, List.setIfInBounds_toArray, List.set_cons_zero, List.set_cons_succ, i64_w, i32_w]
                  rfl
                refine pure_ (i := 3) (N := some 33) (v := ?_) (a' := ?_) #[true, true, true, true, false, false, false, false, false, false, false, false, false, false] rfl rfl (any_of HT_.out (by kernel_rfl)) (fun _ _ _ h => h) (Or.inl ⟨by rfl, ?_⟩) ?_ ?_
                rotate_left
                · intro w'
                  go_simp
                  with_reducible rfl
                rotate_left
                · simp only [Act.put, List.setIfInBounds_toArray, List.set_cons_zero, List.set_cons_succ, i64_w, i32_w]
                  rfl
                refine pure_ (i := 4) (N := some 34) (v := ?_) (a' := ?_) #[true, true, true, true, true, false, false, false, false, false, false, false, false, false] rfl rfl (any_of HT_.out (by kernel_rfl)) (fun _ _ _ h => h) (Or.inl ⟨by rfl, ?_⟩) ?_ ?_
                rotate_left
                · intro w'
                  go_simp
                  with_reducible rfl
                rotate_left
                · simp only [Act.put, List.setIfInBounds_toArray, List.set_cons_zero, List.set_cons_succ, i64_w, i32_w]
                  rfl
                refine pure_ (i := 5) (N := some 35) (v := ?_) (a' := ?_) #[true, true, true, true, true, true, false, false, false, false, false, false, false, false] rfl rfl (any_of HT_.out (by kernel_rfl)) (fun _ _ _ h => h) (Or.inl ⟨by rfl, ?_⟩) ?_ ?_
                rotate_left
                · intro w'
                  go_simp
                  with_reducible rfl
                rotate_left
                · simp only [Act.put, List.setIfInBounds_toArray, List.set_cons_zero, List.set_cons_succ, i64_w, i32_w]
                  rfl
                refine pure_ (i := 6) (N := some 36) (v := ?_) (a' := ?_) #[true, true, true, true, true, true, true, false, false, false, false, false, false, false] rfl rfl (any_of HT_.out (by kernel_rfl)) (fun _ _ _ h => h) (Or.inl ⟨by rfl, ?_⟩) ?_ ?_
                rotate_left
                · intro w'
                  go_simp
                  with_reducible rfl
                rotate_left
                · simp only [Act.put, List.setIfInBounds_toArray, List.set_cons_zero, List.set_cons_succ, i64_w, i32_w]
                  rfl
                refine pure_ (i := 7) (N := some 37) (v := ?_) (a' := ?_) #[true, true, true, true, true, true, true, true, false, false, false, false, false, false] rfl rfl (any_of HT_.out (by kernel_rfl)) (fun _ _ _ h => h) (Or.inl ⟨by rfl, ?_⟩) ?_ ?_
                rotate_left
                · intro w'
                  go_simp
                  with_reducible rfl
                rotate_left
                · simp only [Act.put, List.setIfInBounds_toArray, List.set_cons_zero, List.set_cons_succ, i64_w, i32_w]
                  rfl
                refine pure_ (i := 8) (N := some 38) (v := ?_) (a' := ?_) #[true, true, true, true, true, true, true, true, true, false, false, false, false, false] rfl rfl (any_of HT_.out (by kernel_rfl)) (fun _ _ _ h => h) (Or.inl ⟨by rfl, ?_⟩) ?_ ?_
                rotate_left
                · intro w'
                  go_simp
                  with_reducible rfl
                rotate_left
                · simp only [Act.put, List.setIfInBounds_toArray, List.set_cons_zero, List.set_cons_succ, i64_w, i32_w]
                  rfl
                refine pure_ (i := 10) (N := some 40) (v := ?_) (a' := ?_) #[true, true, true, true, true, true, true, true, true, false, true, false, false, false] rfl rfl (any_of HT_.out (by kernel_rfl)) (fun _ _ _ h => h) (Or.inl ⟨by rfl, ?_⟩) ?_ ?_
                rotate_left
                · intro w'
                  go_simp
                  with_reducible rfl
                rotate_left
                · simp only [Act.put, List.setIfInBounds_toArray, List.set_cons_zero, List.set_cons_succ, i64_w, i32_w]
                  rfl
                refine take_ (i := 9) (N := some 39) (v := ?_) (a' := ?_) #[true, true, true, true, true, true, true, true, true, true, true, false, false, false] rfl rfl (take_ofW HT_.out HW_.out (by kernel_rfl)) (fun _ _ _ h => h) (Or.inl ⟨by rfl, ?_⟩) hHeld ?_ ?_
                rotate_left
                · rintro w' ⟨s0, s1, s2, s3⟩
                  go_simp
                  with_reducible rfl
                rotate_left
                · simp only [Act.put, List.setIfInBounds_toArray, List.set_cons_zero, List.set_cons_succ, i64_w, i32_w]
                  rfl
                refine take_ (i := 11) (N := some 41) (v := ?_) (a' := ?_) #[true, true, true, true, true, true, true, true, true, true, true, true, false, false] rfl rfl (take_ofW HT_.out HW_.out (by kernel_rfl)) (fun _ _ _ h => h) (Or.inl ⟨by rfl, ?_⟩) hHeld ?_ ?_
                rotate_left
                · rintro w' ⟨s0, s1, s2, s3⟩
                  go_simp
                  with_reducible rfl
                rotate_left
                · simp only [Act.put, List.setIfInBounds_toArray, List.set_cons_zero, List.set_cons_succ, i64_w, i32_w]
                  rfl
                refine pure_ (i := 12) (N := some 42) (v := ?_) (a' := ?_) #[true, true, true, true, true, true, true, true, true, true, true, true, true, false] rfl rfl (any_of HT_.out (by kernel_rfl)) (fun _ _ _ h => h) (Or.inl ⟨by rfl, ?_⟩) ?_ ?_
                rotate_left
                · intro w'
                  go_simp
                  with_reducible rfl
                rotate_left
                · simp only [Act.put, List.setIfInBounds_toArray, List.set_cons_zero, List.set_cons_succ, i64_w, i32_w]
                  rfl
                refine pure_ (i := 13) (N := some 43) (v := ?_) (a' := ?_) #[true, true, true, true, true, true, true, true, true, true, true, true, true, true] rfl rfl (any_of HT_.out (by kernel_rfl)) (fun _ _ _ h => h) (Or.inl ⟨by rfl, ?_⟩) ?_ ?_
                rotate_left
                · intro w'
                  go_simp
                  with_reducible rfl
                rotate_left
                · simp only [Act.put, List.setIfInBounds_toArray, List.set_cons_zero, List.set_cons_succ, i64_w, i32_w]
                  rfl
                refine done_ (done_of HT_.out (by kernel_rfl)) ?_
                try go_wp2
                go_meet
                case rel => exact ⟨_, (decide (((rd_T59 l0 x6_2).f0) ≤ x102001_2)), (by first | rfl | (simp; done) | (simp [*]; done)), H', ⟨by have := HJ2.out; have := HK2.out; first | omega | exact Nat.le_refl _⟩, ⟨by (with_reducible repeat (first | apply Kd.R_alloc | apply Kd.R_drewN | apply Kd.R_drew)); exact HO_5.out⟩, ⟨by (with_reducible repeat first | apply blk_drewN | apply blk_drew | apply blk_alloc); exact BK101.out⟩, ⟨by repeat (first | (with_reducible first | exact HB.out | apply below_alloc | apply pw_below_drewN | apply below_drew1 | refine below_set ?_ GE101.out) | exact HB.out)⟩⟩
              · rw [if_neg c15] at H
                exact absurd H (by simp)
            · rw [if_neg c14] at H
              have c14b0 : decide (x6_2 < (l0.length : Int)) = false := decide_eq_false c14
              clear c14
              (first | rw [c14b0] | (simp only [i64_w, i32_w]; rw [c14b0]) | skip)
              have H' := Aside0.mk H
              clear H
              try go_wp2
              have n0_ := Aside0.mk (Kd.R_drew HO_5.out)
              have n1_ := Aside0.mk (blk_drew BK101.out)
              have n2_ := Aside0.mk (below_drew1 HB.out)
              clear HO_5
              clear BK101
              clear HB
              have HO_5 := n0_
              have BK101 := n1_
              have HB := n2_
              clear n0_ n1_ n2_
              refine start_ (n := 14) (S := fun w' => True) (ds := []) #[false, false, false, false, false, false, false, false, false, false, false, false, false, false] (by kernel_rfl) rfl rfl trivial (fun hHeld => ?_); refine with_tabW spec_l2Add.tab6 spec_l2Add.bits6 (fun HT_ HW_ => ?_)
              generalize wr.drew = w17 at HO_5 BK101 HB hHeld ⊢
              refine pure_ (i := 0) (N := some 30) (v := ?_) (a' := ?_) #[true, false, false, false, false, false, false, false, false, false, false, false, false, false] rfl rfl (any_of HT_.out (by kernel_rfl)) (fun _ _ _ h => h) (Or.inl ⟨by rfl, ?_⟩) ?_ ?_
              rotate_left
              · intro w'
                go_simp
                with_reducible rfl
              rotate_left
              · simp only [Act.put, List.setIfInBounds_toArray, List.set_cons_zero, List.set_cons_succ, i64_w, i32_w]
                rfl
              refine pure_ (i := 1) (N := some 31) (v := ?_) (a' := ?_) #[true, true, false, false, false, false, false, false, false, false, false, false, false, false] rfl rfl (any_of HT_.out (by kernel_rfl)) (fun _ _ _ h => h) (Or.inl ⟨by rfl, ?_⟩) ?_ ?_
              rotate_left
              · intro w'
                go_simp
                with_reducible rfl
              rotate_left
              · simp only [Act.put, List.setIfInBounds_toArray, List.set_cons_zero, List.set_cons_succ, i64_w, i32_w]
                rfl
              refine pure_ (i := 2) (N := some 32) (v := ?_) (a' := ?_) #[true, true, true, false, false, false, false, false, false, false, false, false, false, false] rfl rfl (any_of HT_.out (by kernel_rfl)) (fun _ _ _ h => h) (Or.inl ⟨by rfl, ?_⟩) ?_ ?_
              rotate_left
              · intro w'
                go_simp
                with_reducible rfl
              rotate_left
              · simp only [Act.put, List.setIfInBounds_toArray, List.set_cons_zero, List.set_cons_succ, i64_w, i32_w]
                rfl
              refine pure_ (i := 3) (N := some 33) (v := ?_) (a' := ?_) #[true, true, true, true, false, false, false, false, false, false, false, false, false, false] rfl rfl (any_of HT_.out (by kernel_rfl)) (fun _ _ _ h => h) (Or.inl ⟨by rfl, ?_⟩) ?_ ?_
              rotate_left
              · intro w'
                go_simp
                with_reducible rfl
              rotate_left
              · simp only [Act.put, List.setIfInBounds_toArray, List.set_cons_zero, List.set_cons_succ, i64_w, i32_w]
                rfl
              refine pure_ (i := 4) (N := some 34) (v := ?_) (a' := ?_) #[true, true, true, true, true, false, false, false, false, false, false, false, false, false] rfl rfl (any_of HT_.out (by kernel_rfl)) (fun _ _ _ h => h) (Or.inl ⟨by rfl, ?_⟩) ?_ ?_
              rotate_left
              · intro w'
                go_simp
                with_reducible rfl
              rotate_left
              · simp only [Act.put, List.setIfInBounds_toArray, List.set_cons_zero, List.set_cons_succ, i64_w, i32_w]
                rfl
              refine pure_ (i := 5) (N := some 35) (v := undef) (a' := ?_) #[true, true, true, true, true, true, false, false, false, false, false, false, false, false] rfl rfl (any_of HT_.out (by kernel_rfl)) (fun _ _ _ h => h) (Or.inr ⟨by rfl, rfl⟩) ?_ ?_
              rotate_left
              · simp only [Act.put, List.setIfInBounds_toArray, List.set_cons_zero, List.set_cons_succ, i64_w, i32_w]
                rfl
              refine pure_ (i := 6) (N := some 36) (v := undef) (a' := ?_) #[true, true, true, true, true, true, true, false, false, false, false, false, false, false] rfl rfl (any_of HT_.out (by kernel_rfl)) (fun _ _ _ h => h) (Or.inr ⟨by rfl, rfl⟩) ?_ ?_
              rotate_left
              · simp only [Act.put, List.setIfInBounds_toArray, List.set_cons_zero, List.set_cons_succ, i64_w, i32_w]
                rfl
              refine pure_ (i := 7) (N := some 37) (v := undef) (a' := ?_) #[true, true, true, true, true, true, true, true, false, false, false, false, false, false] rfl rfl (any_of HT_.out (by kernel_rfl)) (fun _ _ _ h => h) (Or.inr ⟨by rfl, rfl⟩) ?_ ?_
              rotate_left
              · simp only [Act.put, List.setIfInBounds_toArray, List.set_cons_zero, List.set_cons_succ, i64_w, i32_w]
                rfl
              refine pure_ (i := 8) (N := some 38) (v := undef) (a' := ?_) #[true, true, true, true, true, true, true, true, true, false, false, false, false, false] rfl rfl (any_of HT_.out (by kernel_rfl)) (fun _ _ _ h => h) (Or.inr ⟨by rfl, rfl⟩) ?_ ?_
              rotate_left
              · simp only [Act.put, List.setIfInBounds_toArray, List.set_cons_zero, List.set_cons_succ, i64_w, i32_w]
                rfl
              refine pure_ (i := 9) (N := some 39) (v := undef) (a' := ?_) #[true, true, true, true, true, true, true, true, true, true, false, false, false, false] rfl rfl (any_of HT_.out (by kernel_rfl)) (fun _ _ _ h => h) (Or.inr ⟨by rfl, rfl⟩) ?_ ?_
              rotate_left
              · simp only [Act.put, List.setIfInBounds_toArray, List.set_cons_zero, List.set_cons_succ, i64_w, i32_w]
                rfl
              refine pure_ (i := 10) (N := some 40) (v := undef) (a' := ?_) #[true, true, true, true, true, true, true, true, true, true, true, false, false, false] rfl rfl (any_of HT_.out (by kernel_rfl)) (fun _ _ _ h => h) (Or.inr ⟨by rfl, rfl⟩) ?_ ?_
              rotate_left
              · simp only [Act.put, List.setIfInBounds_toArray, List.set_cons_zero, List.set_cons_succ, i64_w, i32_w]
                rfl
              refine pure_ (i := 11) (N := some 41) (v := undef) (a' := ?_) #[true, true, true, true, true, true, true, true, true, true, true, true, false, false] rfl rfl (any_of HT_.out (by kernel_rfl)) (fun _ _ _ h => h) (Or.inr ⟨by rfl, rfl⟩) ?_ ?_
              rotate_left
              · simp only [Act.put, List.setIfInBounds_toArray, List.set_cons_zero, List.set_cons_succ, i64_w, i32_w]
                rfl
              refine pure_ (i := 12) (N := some 42) (v := undef) (a' := ?_) #[true, true, true, true, true, true, true, true, true, true, true, true, true, false] rfl rfl (any_of HT_.out (by kernel_rfl)) (fun _ _ _ h => h) (Or.inr ⟨by rfl, rfl⟩) ?_ ?_
              rotate_left
              · simp only [Act.put, List.setIfInBounds_toArray, List.set_cons_zero, List.set_cons_succ, i64_w, i32_w]
                rfl
              refine pure_ (i := 13) (N := some 43) (v := ?_) (a' := ?_) #[true, true, true, true, true, true, true, true, true, true, true, true, true, true] rfl rfl (any_of HT_.out (by kernel_rfl)) (fun _ _ _ h => h) (Or.inl ⟨by rfl, ?_⟩) ?_ ?_
              rotate_left
              · intro w'
                go_simp
                with_reducible rfl
              rotate_left
              · simp only [Act.put, List.setIfInBounds_toArray, List.set_cons_zero, List.set_cons_succ, i64_w, i32_w]
                rfl
              refine done_ (done_of HT_.out (by kernel_rfl)) ?_
              try go_wp2
              go_meet
              case rel => exact ⟨_, (false), (by first | rfl | (simp; done) | (simp [*]; done)), H', ⟨by have := HJ2.out; have := HK2.out; first | omega | exact Nat.le_refl _⟩, ⟨by (with_reducible repeat (first | apply Kd.R_alloc | apply Kd.R_drewN | apply Kd.R_drew)); exact HO_5.out⟩, ⟨by (with_reducible repeat first | apply blk_drewN | apply blk_drew | apply blk_alloc); exact BK101.out⟩, ⟨by repeat (first | (with_reducible first | exact HB.out | apply below_alloc | apply pw_below_drewN | apply below_drew1 | refine below_set ?_ GE101.out) | exact HB.out)⟩⟩
          case rest =>
            clear HC13
            try clear c1
            try clear p1
            try clear q1
            try clear hx1
            try clear p2
            try clear c5
            try clear c5b0
            try clear c6
            try clear c6b0
            try clear p6
            try clear c7
            try clear c7b0
            try clear c8
            try clear p10
            try clear q10
            try clear hx10
            try clear c14
            try clear c14b0
            try clear c15
            try clear c15b0
            try clear hx102_0
            try clear hx102_1
            try clear hx103_0
            try clear hx103_1
            try clear hx107_0
            try clear hx107_1
            try clear p1
            try clear p10
            try clear p102
            try clear p103
            try clear p107
            try clear p2
            try clear p6
            try clear q1
            try clear q10
            try clear q102
            try clear q103
            try clear q107
            obtain ⟨kq, x43_12, rfl, HA, HJ12, HO_5, BK101, HB⟩ := hcut
            cases kq with
            | zero => exact absurd HA.out (by simp [spec_l2Add.j3])
            | succ kj12 =>
              have H := HA.out
              clear HA
              simp only [spec_l2Add.j3] at H
              by_cases c18 : x43_12 = true
              · subst c18
                have H1 : (if 0 ≤ x6_2 then (if x6_2 < (l0.length : Int) then ((spec_l1Least.f x102000_2 ((rd_T59 l0 x6_2).f0)).bind fun t109 => ((spec_l1Most.f x102001_2 ((rd_T59 l0 x6_2).f1)).bind fun t111 => (spec_l2Add.l1 kj12 l0 x5_2 (wrap64 (x6_2 + 1)) t109 t111))) else (none)) else (none)) = some r := by rw [if_pos rfl] at H; exact H
                clear H
                have H := H1
                clear H1
                by_cases c19 : 0 ≤ x6_2
                · rw [if_pos c19] at H
                  have c19b0 : decide (0 ≤ x6_2) = true := decide_eq_true c19
                  clear c19
                  by_cases c20 : x6_2 < (l0.length : Int)
                  · rw [if_pos c20] at H
                    have c20b0 : decide (x6_2 < (l0.length : Int)) = true := decide_eq_true c20
                    clear c20
                    replace H := Option.bind_eq_some_iff.mp H
                    obtain ⟨t109, A210, H⟩ := H
                    replace H : ((spec_l1Most.f x102001_2 ((rd_T59 l0 x6_2).f1)).bind fun t111 => (spec_l2Add.l1 kj12 l0 x5_2 (wrap64 (x6_2 + 1)) t109 t111)) = some r := H
                    have A21 := Aside0.mk A210
                    clear A210
                    replace H := Option.bind_eq_some_iff.mp H
                    obtain ⟨t111, A220, H⟩ := H
                    replace H : (spec_l2Add.l1 kj12 l0 x5_2 (wrap64 (x6_2 + 1)) t109 t111) = some r := H
                    have A22 := Aside0.mk A220
                    clear A220
                    have H' := Aside0.mk H
                    clear H
                    try go_wp2
                    have n0_ := Aside0.mk (Kd.R_drew HO_5.out)
                    have n1_ := Aside0.mk (blk_drew BK101.out)
                    have n2_ := Aside0.mk (below_drew1 HB.out)
                    clear HO_5
                    clear BK101
                    clear HB
                    have HO_5 := n0_
                    have BK101 := n1_
                    have HB := n2_
                    clear n0_ n1_ n2_
                    have p108 : 0 ≤ (x6_2 : Int) := of_decide_eq_true (by first | (with_reducible assumption) | assumption)
                    have q108 : x6_2 < (l0.length : Int) := of_decide_eq_true (by first | (with_reducible assumption) | assumption)
                    obtain ⟨ad108, e108, hx108_0, hx108_1⟩ := at_T59 HR0.out x6_2 p108 q108
                    have hw108_1 := hx108_1
                    have hw108_0 := hx108_0
                    cases e108
                    replace hx108_0 := (HB.out.cell (World.block_lt_of_cell? w _ hx108_0)).trans hx108_0
                    replace hx108_1 := (HB.out.cell (World.block_lt_of_cell? w _ hx108_1)).trans hx108_1
                    replace p108 := eq_true p108
                    replace q108 := eq_true q108
                    have p110 : 0 ≤ (x6_2 : Int) := of_decide_eq_true (by first | (with_reducible assumption) | assumption)
                    have q110 : x6_2 < (l0.length : Int) := of_decide_eq_true (by first | (with_reducible assumption) | assumption)
                    obtain ⟨ad110, e110, hx110_0, hx110_1⟩ := at_T59 HR0.out x6_2 p110 q110
                    have hw110_1 := hx110_1
                    have hw110_0 := hx110_0
                    obtain rfl : ad108 = ad110 := (by injection e110)
                    replace hx110_0 := (HB.out.cell (World.block_lt_of_cell? w _ hx110_0)).trans hx110_0
                    replace hx110_1 := (HB.out.cell (World.block_lt_of_cell? w _ hx110_1)).trans hx110_1
                    replace p110 := eq_true p110
                    replace q110 := eq_true q110
                    refine start_ (n := 18) (S := fun w' => w'.cell? ⟨gb101, 0, none⟩ = some (.int .i64 x102000_2) ∧ w'.cell? ⟨gb101, 1, none⟩ = some (.int .i64 x102001_2) ∧ w'.cell? (ad108.add ((x6_2).toNat * 2)) = some (.int .i64 ((rd_T59 l0 x6_2).f0)) ∧ w'.cell? ⟨(ad108.add ((x6_2).toNat * 2)).block, (ad108.add ((x6_2).toNat * 2)).off + 1, none⟩ = some (.int .i64 ((rd_T59 l0 x6_2).f1)) ∧ w'.cell? (ad108.add ((x6_2).toNat * 2)) = some (.int .i64 ((rd_T59 l0 x6_2).f0)) ∧ w'.cell? ⟨(ad108.add ((x6_2).toNat * 2)).block, (ad108.add ((x6_2).toNat * 2)).off + 1, none⟩ = some (.int .i64 ((rd_T59 l0 x6_2).f1))) (ds := [17]) #[false, false, false, false, false, false, false, false, false, false, false, false, false, false, false, false, false, false] (by kernel_rfl) rfl rfl ⟨(blk_cell BK101.out 0).trans rfl, (blk_cell BK101.out 1).trans rfl, ((HB.out.cell (World.block_lt_of_cell? w _ hw108_0)).trans hw108_0), ((HB.out.cell (World.block_lt_of_cell? w _ hw108_1)).trans hw108_1), ((HB.out.cell (World.block_lt_of_cell? w _ hw110_0)).trans hw110_0), ((HB.out.cell (World.block_lt_of_cell? w _ hw110_1)).trans hw110_1)⟩ (fun hHeld => ?_); refine with_tabW spec_l2Add.tab7 spec_l2Add.bits7 (fun HT_ HW_ => ?_)
                    generalize wc.drew = w23 at HO_5 BK101 HB hx108_0 hx108_1 hx110_0 hx110_1 hHeld ⊢
                    refine pure_ (i := 0) (N := some 44) (v := ?_) (a' := ?_) #[true, false, false, false, false, false, false, false, false, false, false, false, false, false, false, false, false, false] rfl rfl (any_of HT_.out (by kernel_rfl)) (fun _ _ _ h => h) (Or.inl ⟨by rfl, ?_⟩) ?_ ?_
                    rotate_left
                    · intro w'
                      go_simp
                      with_reducible rfl
                    rotate_left
                    · simp only [Act.put, List.setIfInBounds_toArray, List.set_cons_zero, List.set_cons_succ, i64_w, i32_w]
                      rfl
                    refine pure_ (i := 2) (N := some 46) (v := ?_) (a' := ?_) #[true, false, true, false, false, false, false, false, false, false, false, false, false, false, false, false, false, false] rfl rfl (any_of HT_.out (by kernel_rfl)) (fun _ _ _ h => h) (Or.inl ⟨by rfl, ?_⟩) ?_ ?_
                    rotate_left
                    · intro w'
                      go_simp
                      with_reducible rfl
                    rotate_left
                    · simp only [Act.put, List.setIfInBounds_toArray, List.set_cons_zero, List.set_cons_succ, i64_w, i32_w]
                      rfl
                    refine pure_ (i := 3) (N := some 47) (v := ?_) (a' := ?_) #[true, false, true, true, false, false, false, false, false, false, false, false, false, false, false, false, false, false] rfl rfl (any_of HT_.out (by kernel_rfl)) (fun _ _ _ h => h) (Or.inl ⟨by rfl, ?_⟩) ?_ ?_
                    rotate_left
                    · intro w'
                      go_simp
                      with_reducible rfl
                    rotate_left
                    · simp only [Act.put, List.setIfInBounds_toArray, List.set_cons_zero, List.set_cons_succ, i64_w, i32_w]
                      rfl
                    refine pure_ (i := 4) (N := some 48) (v := ?_) (a' := ?_) #[true, false, true, true, true, false, false, false, false, false, false, false, false, false, false, false, false, false] rfl rfl (any_of HT_.out (by kernel_rfl)) (fun _ _ _ h => h) (Or.inl ⟨by rfl, ?_⟩) ?_ ?_
                    rotate_left
                    · intro w'
                      go_simp
                      with_reducible rfl
                    rotate_left
                    · simp only [Act.put, List.setIfInBounds_toArray, List.set_cons_zero, List.set_cons_succ, i64_w, i32_w]
                      rfl
                    refine pure_ (i := 5) (N := some 49) (v := ?_) (a' := ?_) #[true, false, true, true, true, true, false, false, false, false, false, false, false, false, false, false, false, false] rfl rfl (any_of HT_.out (by kernel_rfl)) (fun _ _ _ h => h) (Or.inl ⟨by rfl, ?_⟩) ?_ ?_
                    rotate_left
                    · intro w'
                      go_simp
                      with_reducible rfl
                    rotate_left
                    · simp only [Act.put, List.setIfInBounds_toArray, List.set_cons_zero, List.set_cons_succ, i64_w, i32_w]
                      rfl
                    refine pure_ (i := 8) (N := some 52) (v := ?_) (a' := ?_) #[true, false, true, true, true, true, false, false, true, false, false, false, false, false, false, false, false, false] rfl rfl (any_of HT_.out (by kernel_rfl)) (fun _ _ _ h => h) (Or.inl ⟨by rfl, ?_⟩) ?_ ?_
                    rotate_left
                    · intro w'
                      go_simp
                      with_reducible rfl
                    rotate_left
                    · simp only [Act.put, List.setIfInBounds_toArray, List.set_cons_zero, List.set_cons_succ, i64_w, i32_w]
                      rfl
                    refine pure_ (i := 10) (N := some 54) (v := ?_) (a' := ?_) #[true, false, true, true, true, true, false, false, true, false, true, false, false, false, false, false, false, false] rfl rfl (any_of HT_.out (by kernel_rfl)) (fun _ _ _ h => h) (Or.inl ⟨by rfl, ?_⟩) ?_ ?_
                    rotate_left
                    · intro w'
                      go_simp
                      with_reducible rfl
                    rotate_left
                    · simp only [Act.put, List.setIfInBounds_toArray, List.set_cons_zero, List.set_cons_succ, i64_w, i32_w]
                      rfl
                    refine pure_ (i := 11) (N := some 55) (v := ?_) (a' := ?_) #[true, false, true, true, true, true, false, false, true, false, true, true, false, false, false, false, false, false] rfl rfl (any_of HT_.out (by kernel_rfl)) (fun _ _ _ h => h) (Or.inl ⟨by rfl, ?_⟩) ?_ ?_
                    rotate_left
                    · intro w'
                      go_simp
                      with_reducible rfl
                    rotate_left
                    · simp only [Act.put, List.setIfInBounds_toArray, List.set_cons_zero, List.set_cons_succ, i64_w, i32_w]
                      rfl
                    refine pure_ (i := 12) (N := some 56) (v := ?_) (a' := ?_) #[true, false, true, true, true, true, false, false, true, false, true, true, true, false, false, false, false, false] rfl rfl (any_of HT_.out (by kernel_rfl)) (fun _ _ _ h => h) (Or.inl ⟨by rfl, ?_⟩) ?_ ?_
                    rotate_left
                    · intro w'
                      go_simp
                      with_reducible rfl
                    rotate_left
                    · simp only [Act.put, List.setIfInBounds_toArray, List.set_cons_zero, List.set_cons_succ, i64_w, i32_w]
                      rfl
                    refine pure_ (i := 13) (N := some 57) (v := ?_) (a' := ?_) #[true, false, true, true, true, true, false, false, true, false, true, true, true, true, false, false, false, false] rfl rfl (any_of HT_.out (by kernel_rfl)) (fun _ _ _ h => h) (Or.inl ⟨by rfl, ?_⟩) ?_ ?_
                    rotate_left
                    · intro w'
                      go_simp
                      with_reducible rfl
                    rotate_left
                    · simp only [Act.put, List.setIfInBounds_toArray, List.set_cons_zero, List.set_cons_succ, i64_w, i32_w]
                      rfl
                    refine take_ (i := 1) (N := some 45) (v := ?_) (a' := ?_) #[true, true, true, true, true, true, false, false, true, false, true, true, true, true, false, false, false, false] rfl rfl (take_ofW HT_.out HW_.out (by kernel_rfl)) (fun _ _ _ h => h) (Or.inl ⟨by rfl, ?_⟩) hHeld ?_ ?_
                    rotate_left
                    · rintro w' ⟨s0, s1, s2, s3, s4, s5⟩
                      go_simp
                      with_reducible rfl
                    rotate_left
                    · simp only [Act.put, List.setIfInBounds_toArray, List.set_cons_zero, List.set_cons_succ, i64_w, i32_w]
                      rfl
                    refine take_ (i := 6) (N := some 50) (v := ?_) (a' := ?_) #[true, true, true, true, true, true, true, false, true, false, true, true, true, true, false, false, false, false] rfl rfl (take_ofW HT_.out HW_.out (by kernel_rfl)) (fun _ _ _ h => h) (Or.inl ⟨by rfl, ?_⟩) hHeld ?_ ?_
                    rotate_left
                    · rintro w' ⟨s0, s1, s2, s3, s4, s5⟩
                      go_simp
                      with_reducible rfl
                    rotate_left
                    · simp only [Act.put, List.setIfInBounds_toArray, List.set_cons_zero, List.set_cons_succ, i64_w, i32_w]
                      rfl
                    refine take_ (i := 9) (N := some 53) (v := ?_) (a' := ?_) #[true, true, true, true, true, true, true, false, true, true, true, true, true, true, false, false, false, false] rfl rfl (take_ofW HT_.out HW_.out (by kernel_rfl)) (fun _ _ _ h => h) (Or.inl ⟨by rfl, ?_⟩) hHeld ?_ ?_
                    rotate_left
                    · rintro w' ⟨s0, s1, s2, s3, s4, s5⟩
                      go_simp
                      with_reducible rfl
                    rotate_left
                    · simp only [Act.put, List.setIfInBounds_toArray, List.set_cons_zero, List.set_cons_succ, i64_w, i32_w]
                      rfl
                    refine take_ (i := 14) (N := some 58) (v := ?_) (a' := ?_) #[true, true, true, true, true, true, true, false, true, true, true, true, true, true, true, false, false, false] rfl rfl (take_ofW HT_.out HW_.out (by kernel_rfl)) (fun _ _ _ h => h) (Or.inl ⟨by rfl, ?_⟩) hHeld ?_ ?_
                    rotate_left
                    · rintro w' ⟨s0, s1, s2, s3, s4, s5⟩
                      go_simp
                      with_reducible rfl
                    rotate_left
                    · simp only [Act.put, List.setIfInBounds_toArray, List.set_cons_zero, List.set_cons_succ, i64_w, i32_w]
                      rfl
                    refine one_ (i := 7) (N := some 51) #[true, true, true, true, true, true, true, true, true, true, true, true, true, true, true, false, false, false] rfl rfl (one_of HT_.out (by kernel_rfl)) (by decide) (fun K hK => ?_)
                    refine goes_ Try.func74 (by kernel_rfl) rfl #[.int .i64 x102000_2, .int .i64 ((rd_T59 l0 x6_2).f0)] (by rfl) rfl rfl (by (try simp only [List.map_toArray, List.map_cons, List.map_nil]); first | done | rfl | (simp only [List.length_drop, List.length_take]; rfl)) ?_
                    with_reducible refine (spec_l1Least.calls x102000_2 ((rd_T59 l0 x6_2).f0) t109 _ A21.out).mono ?_
                    rintro e w' ⟨rfl, ⟨nd, rfl⟩⟩
                    refine ⟨_, rfl, ?_⟩
                    refine hK.out _ _ ⟨(blk_cell BK101.out 0).trans rfl, (blk_cell BK101.out 1).trans rfl, ((HB.out.cell (World.block_lt_of_cell? w _ hw108_0)).trans hw108_0), ((HB.out.cell (World.block_lt_of_cell? w _ hw108_1)).trans hw108_1), ((HB.out.cell (World.block_lt_of_cell? w _ hw110_0)).trans hw110_0), ((HB.out.cell (World.block_lt_of_cell? w _ hw110_1)).trans hw110_1)⟩ (fun hHeld => ?_)
                    clear hK K
                    refine norm_ (a' := ?_) ?_ ?_
                    rotate_left
                    · show Act.put _ (some 51) _ = _
                      simp only [Act.put, List.setIfInBounds_toArray, List.set_cons_zero, List.set_cons_succ, i64_w, i32_w]
                      rfl
                    refine one_ (i := 15) (N := some 59) #[true, true, true, true, true, true, true, true, true, true, true, true, true, true, true, true, false, false] rfl rfl (one_of HT_.out (by kernel_rfl)) (by decide) (fun K hK => ?_)
                    refine goes_ Try.func75 (by kernel_rfl) rfl #[.int .i64 x102001_2, .int .i64 ((rd_T59 l0 x6_2).f1)] (by rfl) rfl rfl (by (try simp only [List.map_toArray, List.map_cons, List.map_nil]); first | done | rfl | (simp only [List.length_drop, List.length_take]; rfl)) ?_
                    with_reducible refine (spec_l1Most.calls x102001_2 ((rd_T59 l0 x6_2).f1) t111 _ A22.out).mono ?_
                    rintro e w' ⟨rfl, ⟨nd, rfl⟩⟩
                    refine ⟨_, rfl, ?_⟩
                    refine hK.out _ _ ⟨(blk_cell BK101.out 0).trans rfl, (blk_cell BK101.out 1).trans rfl, ((HB.out.cell (World.block_lt_of_cell? w _ hw108_0)).trans hw108_0), ((HB.out.cell (World.block_lt_of_cell? w _ hw108_1)).trans hw108_1), ((HB.out.cell (World.block_lt_of_cell? w _ hw110_0)).trans hw110_0), ((HB.out.cell (World.block_lt_of_cell? w _ hw110_1)).trans hw110_1)⟩ (fun hHeld => ?_)
                    clear hK K
                    refine norm_ (a' := ?_) ?_ ?_
                    rotate_left
                    · show Act.put _ (some 59) _ = _
                      simp only [Act.put, List.setIfInBounds_toArray, List.set_cons_zero, List.set_cons_succ, i64_w, i32_w]
                      rfl
                    refine pure_ (i := 16) (N := some 60) (v := ?_) (a' := ?_) #[true, true, true, true, true, true, true, true, true, true, true, true, true, true, true, true, true, false] rfl rfl (any_of HT_.out (by kernel_rfl)) (fun _ _ _ h => h) (Or.inl ⟨by rfl, ?_⟩) ?_ ?_
                    rotate_left
                    · intro w'
                      go_simp
                      with_reducible rfl
                    rotate_left
                    · simp only [Act.put, List.setIfInBounds_toArray, List.set_cons_zero, List.set_cons_succ, i64_w, i32_w]
                      rfl
                    refine last_ (i := 17) (N := none) #[true, true, true, true, true, true, true, true, true, true, true, true, true, true, true, true, true, true] rfl rfl (one_of HT_.out (by kernel_rfl)) (by decide) (fun K hK => ?_)
                    have hs24 : w23.cell? ⟨gb101, 0, none⟩ = some (.int .i64 x102000_2) := (blk_cell BK101.out 0).trans rfl
                    have hfs24 := blk_frozen BK101.out 0
                    have hs25 : w23.cell? ⟨gb101, 1, none⟩ = some (.int .i64 x102001_2) := (blk_cell BK101.out 1).trans rfl
                    have hfs25 := blk_frozen BK101.out 1
                    refine skip_ (w1 := ?_) (by rfl) rfl ?_ ?_
                    rotate_left
                    · go_simp
                      rfl
                    refine hK.out _ _ ?_
                    clear hK K
                    refine done_ (done_of HT_.out (by kernel_rfl)) ?_
                    try go_wp2
                    go_roundg kj12
                    case measure => have := HJ2.out; have := HK2.out; have := HJ12.out; omega
                    case rel => exact ⟨(wrap64 (x6_2 + 1)), (t109), (t111), (by first | rfl | (simp; done) | (simp [*]; done)), H', ⟨by have := HJ2.out; have := HK2.out; have := HJ12.out; omega⟩, ⟨by (with_reducible repeat (first | apply Kd.R_alloc | apply Kd.R_drewN | apply Kd.R_drew)); exact Kd.R_mono (Kd.R_far (p := ⟨gb101, 1, none⟩) (Kd.R_far (p := ⟨gb101, 0, none⟩) (Kd.R_mono HO_5.out (fun k_ hk => (⟨hk, hk⟩ : _ ∧ k_ ≠ gb101))) (fun _ hk => hk.2) (.int .i64 t109)) (fun _ hk => hk.2) (.int .i64 t111)) (fun _ hk => hk.1)⟩, ⟨by (with_reducible repeat first | apply blk_drewN | apply blk_drew | apply blk_alloc); refine blk_put (cs := #[.int .i64 t109, .int .i64 x102001_2]) ?_ 1 _ rfl; (with_reducible repeat first | apply blk_drewN | apply blk_drew | apply blk_alloc); refine blk_put (cs := #[.int .i64 x102000_2, .int .i64 x102001_2]) ?_ 0 _ rfl; (with_reducible repeat first | apply blk_drewN | apply blk_drew | apply blk_alloc); exact BK101.out⟩, ⟨by repeat (first | (with_reducible first | exact HB.out | apply below_alloc | apply pw_below_drewN | apply below_drew1 | refine below_set ?_ GE101.out) | exact HB.out)⟩⟩
                  · rw [if_neg c20] at H
                    exact absurd H (by simp)
                · rw [if_neg c19] at H
                  exact absurd H (by simp)
              · replace c18 := Bool.eq_false_iff.mpr c18
                subst c18
                have H1 : (if x5_2.length < 8796093022208 then ((some (x5_2 ++ [(⟨x102000_2, x102001_2⟩ : S59)] : List (S59))).bind fun y112 => (if 0 ≤ x6_2 then (if x6_2 ≤ (l0.length : Int) then ((some (l0.drop (x6_2 : Int).toNat : List (S59))).bind fun y115 => (if y112.length + y115.length < 8796093022208 then (some (y112 ++ y115)) else (none))) else (none)) else (none))) else (none)) = some r := by rw [if_neg (show ¬ (false = true) by decide)] at H; exact H
                clear H
                have H := H1
                clear H1
                by_cases c26 : x5_2.length < 8796093022208
                · rw [if_pos c26] at H
                  have LMc26 := Aside0.mk c26
                  clear c26
                  obtain ⟨y112, hy112⟩ : ∃ y_ : List (S59), y_ = (x5_2 ++ [(⟨x102000_2, x102001_2⟩ : S59)]) := ⟨_, rfl⟩
                  replace H : (if 0 ≤ x6_2 then (if x6_2 ≤ (l0.length : Int) then ((some (l0.drop (x6_2 : Int).toNat : List (S59))).bind fun y115 => (if y112.length + y115.length < 8796093022208 then (some (y112 ++ y115)) else (none))) else (none)) else (none)) = some r := by first | (rw [hy112]; with_reducible exact H) | (have H2_ := (Option.bind_some _ _).symm.trans H; rw [hy112]; with_reducible exact H2_) | (have H2_ := (Option.bind_some _ _).symm.trans H; with_reducible exact H2_) | with_reducible exact H | (rw [hy112]; exact H) | exact H
                  have Ny112 := Aside0.mk hy112
                  clear hy112
                  by_cases c27 : 0 ≤ x6_2
                  · rw [if_pos c27] at H
                    have c27b0 := eq_true c27
                    have c27b1 : decide (0 ≤ x6_2) = true := decide_eq_true c27
                    clear c27
                    by_cases c28 : x6_2 ≤ (l0.length : Int)
                    · rw [if_pos c28] at H
                      have c28b0 := eq_true c28
                      have c28b1 : decide (x6_2 ≤ (l0.length : Int)) = true := decide_eq_true c28
                      clear c28
                      obtain ⟨y115, hy115⟩ : ∃ y_ : List (S59), y_ = (l0.drop (x6_2 : Int).toNat) := ⟨_, rfl⟩
                      replace H : (if y112.length + y115.length < 8796093022208 then (some (y112 ++ y115)) else (none)) = some r := by first | (rw [hy115]; with_reducible exact H) | (have H2_ := (Option.bind_some _ _).symm.trans H; rw [hy115]; with_reducible exact H2_) | (have H2_ := (Option.bind_some _ _).symm.trans H; with_reducible exact H2_) | with_reducible exact H | (rw [hy115]; exact H) | exact H
                      have Ny115 := Aside0.mk hy115
                      clear hy115
                      by_cases c29 : y112.length + y115.length < 8796093022208
                      · rw [if_pos c29] at H
                        have LMc29 := Aside0.mk c29
                        clear c29
                        obtain ⟨y119, hy119⟩ : ∃ y_ : List (S59), y_ = (y112 ++ y115) := ⟨_, rfl⟩
                        replace H : (some y119) = some r := by first | (rw [hy119]; with_reducible exact H) | (have H2_ := (Option.bind_some _ _).symm.trans H; rw [hy119]; with_reducible exact H2_) | (have H2_ := (Option.bind_some _ _).symm.trans H; with_reducible exact H2_) | with_reducible exact H | (rw [hy119]; exact H) | exact H
                        have Ny119 := Aside0.mk hy119
                        clear hy119
                        obtain rfl := Option.some.inj H
                        have hcz30_0 : wc.cell? ⟨gb101, 0, none⟩ = some (.int .i64 x102000_2) := (blk_cell BK101.out 0).trans rfl
                        have hcz30_1 : wc.cell? ⟨gb101, 1, none⟩ = some (.int .i64 x102001_2) := (blk_cell BK101.out 1).trans rfl
                        have hfz30_0 := blk_frozen BK101.out 0
                        have hfz30_1 := blk_frozen BK101.out 1
                        go_wp2_with (first | ((with_reducible refine gate_builtin (b := .append) (xs := #[.tmp 63, .tmp 65]) rfl ?_); at_builtin; refine Kd.R_append k59 (w0 := w) w.heap.size rfl (.tmp 63) (.tmp 65) 29 59 (.agg #[(.int .i64 0), (.int .i64 0)]) 16 rfl Try.underlying29 info59 rfl (by decide) (by omega) u5 x5_2 (⟨x102000_2, x102001_2⟩ : S59) [.int .i64 x102000_2, .int .i64 x102001_2] (fun k_ => k_ ≠ gb101) (fun _ => False) rfl rfl ?aP (fun _ hk => hk.elim) ?aF ?aO ?aB ?aS ?aL ?_; (case aP => exact k59_mkM _ _ _ (⟨x102000_2, x102001_2⟩ : S59)); (case aB => exact (by repeat (first | (with_reducible first | exact HB.out | apply below_alloc | apply pw_below_drewN | apply below_drew1 | refine below_set ?_ GE101.out) | exact HB.out))); (case aF => exact (fun k_ hk => Kd.freshB (g := gb101) (o := .cells #[.int .i64 x102000_2, .int .i64 x102001_2] 59 (0, 0)) (by (with_reducible repeat first | apply blk_drewN | apply blk_drew | apply blk_alloc); exact BK101.out) k_ hk)); (case aO => exact (by (with_reducible repeat (first | apply Kd.R_alloc | apply Kd.R_drewN | apply Kd.R_drew)); exact HO_5.out)); (case aS => exact (below_size (by repeat (first | (with_reducible first | exact HB.out | apply below_alloc | apply pw_below_drewN | apply below_drew1 | refine below_set ?_ GE101.out) | exact HB.out)))); (case aL => have := LMc26.out; omega); intro v113 w31 ho hb hg hat; rw [← Ny112.out] at ho; have n0_ := Aside0.mk (blk_grown (g := gb101) (o := .cells #[.int .i64 x102000_2, .int .i64 x102001_2] 59 (0, 0)) (by (with_reducible repeat first | apply blk_drewN | apply blk_drew | apply blk_alloc); exact BK101.out) hg (Kd.R_away HO_5.out (fun _ hk => hk))); have n1_ := Aside0.mk (hb); have n2_ := Aside0.mk (ho); clear BK101; clear HB; clear HO_5; have BK101 := n0_; have HB := n1_; have HO114 := n2_; clear n0_ n1_ n2_; clear ho hb hg hat; have q32 : (x6_2 : Int) ≤ ((l0.length : Int) : Int) := of_decide_eq_true (by first | (with_reducible assumption) | assumption); obtain ⟨i032, hi032, _, hsz32, _⟩ := info_parts info59; have hroom32 : l0.length ≤ c0 := HC0.out; have hC32 : Kd.C k59 _ A0 l0.length l0 := HR0.out; have q032 : (0 : Int) ≤ (x6_2 : Int) := of_decide_eq_true (by first | (with_reducible assumption) | assumption); have hcut32 := cut_from (P := Try.prog) 29 59 .i64 Try.underlying29 hi032 2 hsz32 A0 l0.length c0 x6_2 q032 q32; have hr32 := Kd.C_drop (m := (x6_2 : Int).toNat) (c := c0) hC32 (by omega) hroom32; obtain ⟨A32, hA32⟩ : ∃ A1, A1 = (if c0 = (x6_2 : Int).toNat then A0 else (A0 : Option Addr).map (·.add ((x6_2 : Int).toNat * 2))) := ⟨_, rfl⟩; obtain ⟨c32, hc32⟩ : ∃ c1, c1 = c0 - (x6_2 : Int).toNat := ⟨_, rfl⟩; have hy32 : y115.length = l0.length - (x6_2 : Int).toNat := (by rw [Ny115.out, List.length_drop] <;> omega); rw [show (l0).drop (x6_2 : Int).toNat = y115 from Ny115.out.symm] at hr32; replace hr32 : Kd.C k59 _ A32 y115.length y115 := (by rw [hA32]; exact hr32); rw [← hy32, ← hA32, ← hc32] at hcut32; have HR118 := Aside0.mk hr32; have HC118 := Aside0.mk (show y115.length ≤ c32 from by rw [hy32, hc32]; exact Nat.sub_le_sub_right hroom32 _); clear hr32 hC32 hroom32 hi032 hsz32 hc32; have KY32 := Aside0.mk hy32; have KA32 := Aside0.mk hA32; clear hy32 hA32; replace q32 := eq_true q32) | ((with_reducible refine gate_builtin (b := .append) (xs := #[.tmp 67, .tmp 70]) rfl ?_); at_builtin; refine Kd.R_append_rows k59 (w0 := w) w.heap.size rfl (.tmp 67) (.tmp 70) 29 59 (.agg #[(.int .i64 0), (.int .i64 0)]) 16 rfl Try.underlying29 info59 rfl (by decide) (by omega) v113 y112 y115 _ _ _ (fun k_ => k_ ≠ gb101) (fun _ => False) rfl rfl ?aO ?aR (fun _ _ h => h) (fun _ h => h.elim) ?aF ?aB ?aS ?aL ?_; (case aR => repeat (first | exact (Kd.C_below HR118.out HB.out) | (with_reducible refine Kd.C_alloc ?_ _) | (with_reducible refine Kd.C_drewN ?_ _) | (with_reducible refine Kd.C_drew ?_))); (case aB => exact (by repeat (first | (with_reducible first | exact HB.out | apply below_alloc | apply pw_below_drewN | apply below_drew1 | refine below_set ?_ GE101.out) | exact HB.out))); (case aF => exact (fun k_ hk => Kd.freshB (g := gb101) (o := .cells #[.int .i64 x102000_2, .int .i64 x102001_2] 59 (0, 0)) (by (with_reducible repeat first | apply blk_drewN | apply blk_drew | apply blk_alloc); exact BK101.out) k_ hk)); (case aO => exact (by (with_reducible repeat (first | apply Kd.R_alloc | apply Kd.R_drewN | apply Kd.R_drew)); exact HO114.out)); (case aS => exact (below_size (by repeat (first | (with_reducible first | exact HB.out | apply below_alloc | apply pw_below_drewN | apply below_drew1 | refine below_set ?_ GE101.out) | exact HB.out)))); (case aL => have := LMc29.out; omega); intro v120 w33 ho hb hg hat; rw [← Ny119.out] at ho; have n0_ := Aside0.mk (blk_grown (g := gb101) (o := .cells #[.int .i64 x102000_2, .int .i64 x102001_2] 59 (0, 0)) (by (with_reducible repeat first | apply blk_drewN | apply blk_drew | apply blk_alloc); exact BK101.out) hg (Kd.R_away HO114.out (fun _ hk => hk))); have n1_ := Aside0.mk (hb); have n2_ := Aside0.mk (ho); clear BK101; clear HB; clear HO114; have BK101 := n0_; have HB := n1_; have HO121 := n2_; clear n0_ n1_ n2_; clear ho hb hg hat))
                        go_ret
                        exact ⟨_, by first | rfl | (simp [errW_none, errW_some] <;> rfl) | (simp [*, errW_none, errW_some] <;> rfl), by (with_reducible repeat (first | apply Kd.R_alloc | apply Kd.R_drewN | apply Kd.R_drew)); exact Kd.R_mono HO121.out (fun _ hk => trivial), by repeat (first | (with_reducible first | exact HB.out | apply below_alloc | apply pw_below_drewN | apply below_drew1 | refine below_set ?_ GE101.out) | exact HB.out)⟩
                      · rw [if_neg c29] at H
                        exact absurd H (by simp)
                    · rw [if_neg c28] at H
                      exact absurd H (by simp)
                  · rw [if_neg c27] at H
                    exact absurd H (by simp)
                · rw [if_neg c26] at H
                  exact absurd H (by simp)

end Go.Proofs.Ytligcknlmbgbiaa.P

namespace Go.Proofs.Ytligcknlmbgbiaa.P
open Go.RowKit Go.Proofs.YtligcknlmbgbiaaW.PrintWords Go.Proofs.YtligcknlmbgbiaaW.PrintLast Go.Proofs.YtligcknlmbgbiaaW.PrintMore
attribute [local go_sem] max2_int min2_int max_two min_two max_three min_three max_four min_four
set_option linter.unusedVariables false
set_option linter.unusedSimpArgs false

/-! ### spec_l2Join: function 66 -/
def spec_l2Join.l0 : Nat → List (S59) → List (S59) → Int → Int → Option ((List (S59)))
  | 0, _, _, _, _ => none
  | k + 1, x5, x11, x12, x13 => if x13 < x12 then (if 0 ≤ x13 then (if x13 < (x11.length : Int) then ((spec_l2Add.f k x5 ((rd_T59 x11 x13).f0) ((rd_T59 x11 x13).f1)).bind fun t109 => (spec_l2Join.l0 k t109 x11 x12 (wrap64 (x13 + 1)))) else (none)) else (none)) else (some x5)
def spec_l2Join.f (k : Nat) (l0 : List (S59)) (l1 : List (S59)) : Option ((List (S59))) := (some (([] : List (S59)) : List (S59))).bind fun y101 => (if y101.length + l0.length < 8796093022208 then (spec_l2Join.l0 k (y101 ++ l0) l1 (l1.length : Int) 0) else (none))
set_option maxHeartbeats 8000000 in
set_option maxRecDepth 100000 in
theorem spec_l2Join.calls (k : Nat) (A0 : Option Addr) (c0 : Nat) (l0 : List (S59)) (A1 : Option Addr) (c1 : Nat) (l1 : List (S59)) (r : List (S59)) (w : World) (hr0 : Kd.C k59 w A0 l0.length l0) (hc0 : l0.length ≤ c0) (hr1 : Kd.C k59 w A1 l1.length l1) (hc1 : l1.length ≤ c1) (h : spec_l2Join.f k l0 l1 = some r) :
  Calls Try.prog 66 #[.slice A0 l0.length c0, .slice A1 l1.length c1] w fun e w' => ∃ v0_ : Value, e = .returned (v0_) ∧ Kd.R k59 59 w' w.heap.size (fun _ => True) v0_ r ∧ Below w.heap.size w w' := by
 have hu59 := Try.underlying59
 have HR0 := sA hr0
 have HC0 := sA hc0
 clear hr0 hc0
 have HR1 := sA hr1
 have HC1 := sA hc1
 clear hr1 hc1
 have HB := sA (Below.refl w.heap.size w)
 have H : ((some (([] : List (S59)) : List (S59))).bind fun y101 => (if y101.length + l0.length < 8796093022208 then (spec_l2Join.l0 k (y101 ++ l0) l1 (l1.length : Int) 0) else (none))) = some r := h
 clear h
 obtain ⟨y101, hy101⟩ : ∃ y_ : List (S59), y_ = (([] : List (S59))) := ⟨_, rfl⟩
 replace H : (if y101.length + l0.length < 8796093022208 then (spec_l2Join.l0 k (y101 ++ l0) l1 (l1.length : Int) 0) else (none)) = some r := by first | (rw [hy101]; with_reducible exact H) | (have H2_ := (Option.bind_some _ _).symm.trans H; rw [hy101]; with_reducible exact H2_) | (have H2_ := (Option.bind_some _ _).symm.trans H; with_reducible exact H2_) | with_reducible exact H | (rw [hy101]; exact H) | exact H
 have Ny101 := sA hy101
 clear hy101
 by_cases c3 : y101.length + l0.length < 8796093022208
 ·rw [if_pos c3] at H
  have LMc3 := sA c3
  clear c3
  obtain ⟨y104, hy104⟩ : ∃ y_ : List (S59), y_ = (y101 ++ l0) := ⟨_, rfl⟩
  replace H : (spec_l2Join.l0 k y104 l1 (l1.length : Int) 0) = some r := by first | (rw [hy104]; with_reducible exact H) | (have H2_ := (Option.bind_some _ _).symm.trans H; rw [hy104]; with_reducible exact H2_) | (have H2_ := (Option.bind_some _ _).symm.trans H; with_reducible exact H2_) | with_reducible exact H | (rw [hy104]; exact H) | exact H
  have Ny104 := sA hy104
  clear hy104
  have H' := sA H
  clear H
  go_enter Try.func66, Try.ntmps66
  go_wp2_with (first | ((with_reducible refine gate_dst (N := 8) rfl ?_); refine Kd.R_lit k59 _ 59 ?hg (N := 8) ?hd (xs := ([] : List (S59))) (inner := []) (ok := fun _ => True) (okp := fun _ => True) ?hr ?hp (fun _ hk => hk) trivial (Below.refl _ _) (Nat.le_refl _) (by simp) ?_; (case hd => rfl); (case hg => rfl); (case hr => first | (go_simp; done) | (go_simp; rfl)); (case hp => exact (Reps.none _ _)); intro v102 w4 ho5 hb hg_ hnew_; clear hg_ hnew_; (first | rw [← Ny101.out] at ho5 | (simp only [Int.reduceToNat] at ho5; rw [← Ny101.out] at ho5)); have HO103 := sA (Kd.R_lower ho5 (below_size sH)); replace HB := sA (below_step sH hb); clear hb ho5) | ((with_reducible refine gate_builtin (b := .append) (xs := #[.tmp 8, .tmp 9]) rfl ?_); at_builtin; refine Kd.R_append_rows k59 (w0 := w) w.heap.size rfl (.tmp 8) (.tmp 9) 29 59 (.agg #[(.int .i64 0), (.int .i64 0)]) 16 rfl Try.underlying29 info59 rfl (by decide) (by omega) v102 y101 l0 _ _ _ (fun _ => True) (fun _ => False) rfl rfl ?aO ?aR (fun _ _ h => h) (fun _ h => h.elim) ?aF ?aB ?aS ?aL ?_; (case aR => exact sK (Kd.C_below HR0.out HB.out)); (case aB => exact sH); (case aF => exact (fun _ _ => trivial)); (case aO => exact (sR HO103.out)); (case aS => exact (below_size sH)); (case aL => have := LMc3.out; omega); intro v105 w6 ho hb hg hat; rw [← Ny104.out] at ho; replace HB := sA (hb); have HO106 := sA (ho); clear HO103; clear ho hb hg hat))
  go_loopg [5, 13] k (fun kq v5 v13 w' => ∃ (x5_1 : List (S59)) (x13_1 : Int), v13 = .int .i64 x13_1 ∧ Aside0 (spec_l2Join.l0 kq x5_1 l1 (l1.length : Int) x13_1 = some r) ∧ Aside0 (kq ≤ k) ∧ Aside0 (Kd.R k59 59 w' w.heap.size (fun _ => True) v5 x5_1) ∧ Aside0 (Below w.heap.size w w'))
  case atStart => exact ⟨(y104), (0), (by first | rfl | (simp; done) | (simp [*]; done)), H', ⟨Nat.le_refl _⟩, ⟨sR HO106.out⟩, ⟨sH⟩⟩
  case round =>
   clear H'
   (try clear c1); (try clear p2); (try clear c3); (try clear c6)
   obtain ⟨x5_1, x13_1, rfl, HA, HK1, HO_5, HB⟩ := hrel
   cases gk with
   | zero => exact absurd HA.out (by simp [spec_l2Join.l0])
   | succ k1 =>
    have H := HA.out
    clear HA
    simp only [spec_l2Join.l0] at H
    by_cases c7 : x13_1 < (l1.length : Int)
    ·rw [if_pos c7] at H
     have c7b0 : decide (x13_1 < (l1.length : Int)) = true := decide_eq_true c7
     clear c7
     by_cases c8 : 0 ≤ x13_1
     ·rw [if_pos c8] at H
      have c8b0 : decide (0 ≤ x13_1) = true := decide_eq_true c8
      clear c8
      by_cases c9 : x13_1 < (l1.length : Int)
      ·rw [if_pos c9] at H
       have c9b0 : decide (x13_1 < (l1.length : Int)) = true := decide_eq_true c9
       clear c9
       obtain ⟨t109, A10, H⟩ := sN H
       have H' := sA H
       clear H
       have p107 : 0 ≤ (x13_1 : Int) := of_decide_eq_true (by first | (with_reducible assumption) | assumption)
       have q107 : x13_1 < (l1.length : Int) := of_decide_eq_true (by first | (with_reducible assumption) | assumption)
       obtain ⟨ad107, e107, hx107_0, hx107_1⟩ := at_T59 HR1.out x13_1 p107 q107
       cases e107
       replace hx107_0 := (HB.out.cell (World.block_lt_of_cell? w _ hx107_0)).trans hx107_0
       replace hx107_1 := (HB.out.cell (World.block_lt_of_cell? w _ hx107_1)).trans hx107_1
       replace p107 := eq_true p107
       replace q107 := eq_true q107
       go_wp2_with (first | ((with_reducible refine gate_dst (N := 7) rfl ?_); refine box_event ?hg (N := 7) ?hd (cs := #[.int .i64 0, .int .i64 0]) (t := 59) ?hr ?_; (case hd => rfl); (case hg => rfl); (case hr => first | (go_simp; done) | (go_simp; rfl)); intro gb108 hg w11 hbox hb; replace HO_5 := sA (Kd.R_below (Kd.R_elderB (sR HO_5.out) gb108 (Nat.le_of_eq hg.symm)) hb); have BK108 := sA (hbox); have GW108 := sA ((by rw [hg]; exact (below_size sH) : w.heap.size ≤ gb108)); have GE108 := sA ((by rw [hg]; exact (below_size sH) : w.heap.size ≤ gb108)); replace HB := sA (below_step sH hb); clear hb hbox hg; obtain ⟨_, _, _, _⟩ := sD2 BK108; obtain ⟨Ao13, co13, eo13⟩ := Kd.R_slice HO_5.out; subst eo13) | ((with_reducible refine gate_callee (f := 55) rfl ?_); refine goesL_ (some 19) rfl rfl Try.func55 (by kernel_rfl) rfl #[.slice Ao13 x5_1.length co13, .agg #[.int .i64 ((rd_T59 l1 x13_1).f0), .int .i64 ((rd_T59 l1 x13_1).f1)]] rfl sG ?_; (with_reducible refine (spec_l2Add.calls k1 _ _ x5_1 ((rd_T59 l1 x13_1).f0) ((rd_T59 l1 x13_1).f1) t109 _ ?side1 ?side2 A10.out).mono ?_); (case side1 => refine (Kd.R_reads' (e := 59) (base := w.heap.size) (ok := fun k_ => (True ∧ k_ ≠ gb108)) (n := x5_1.length) (c := co13) ?_).2.2; exact (sR (Kd.R_mono (Kd.R_far (p := ⟨gb108, 1, none⟩) (Kd.R_far (p := ⟨gb108, 0, none⟩) (Kd.R_mono HO_5.out (fun k_ hk => (⟨hk, hk.2⟩ : _ ∧ k_ ≠ gb108))) (fun _ hk => hk.2) (.int .i64 ((rd_T59 l1 x13_1).f0))) (fun _ hk => hk.2) (.int .i64 ((rd_T59 l1 x13_1).f1))) (fun _ h_ => h_.1)))); (case side2 => exact (Kd.R_reads' HO_5.out).2.1); rintro e w14 ⟨v110, rfl, ho0, hb⟩; refine ⟨_, rfl, ?_⟩; have HO111 := sA (Kd.R_lower (Kd.R_newB (Kd.R_new' ho0 (Kd.R_lt (sR (Kd.R_mono (Kd.R_far (p := ⟨gb108, 1, none⟩) (Kd.R_far (p := ⟨gb108, 0, none⟩) (Kd.R_mono HO_5.out (fun k_ hk => (⟨hk, hk.2⟩ : _ ∧ k_ ≠ gb108))) (fun _ hk => hk.2) (.int .i64 ((rd_T59 l1 x13_1).f0))) (fun _ hk => hk.2) (.int .i64 ((rd_T59 l1 x13_1).f1))) (fun _ h_ => h_.1))))) (g := gb108) (o := .cells #[.int .i64 ((rd_T59 l1 x13_1).f0), .int .i64 ((rd_T59 l1 x13_1).f1)] 59 (0, 0)) (by (with_reducible repeat first | apply blk_drewN | apply blk_drew | apply blk_alloc); refine blk_put (cs := #[.int .i64 ((rd_T59 l1 x13_1).f0), .int .i64 0]) ?_ 1 _ rfl; (with_reducible repeat first | apply blk_drewN | apply blk_drew | apply blk_alloc); refine blk_put (cs := #[.int .i64 0, .int .i64 0]) ?_ 0 _ rfl; (with_reducible repeat first | apply blk_drewN | apply blk_drew | apply blk_alloc); exact BK108.out)) (below_size sH)); replace HO_5 := sA (Kd.R_elder' (sR (Kd.R_mono (Kd.R_far (p := ⟨gb108, 1, none⟩) (Kd.R_far (p := ⟨gb108, 0, none⟩) (Kd.R_mono HO_5.out (fun k_ hk => (⟨hk, hk.2⟩ : _ ∧ k_ ≠ gb108))) (fun _ hk => hk.2) (.int .i64 ((rd_T59 l1 x13_1).f0))) (fun _ hk => hk.2) (.int .i64 ((rd_T59 l1 x13_1).f1))) (fun _ h_ => h_.1))) (Kd.R_base ho0) hb); replace BK108 := sA (blk_below (g := gb108) (o := .cells #[.int .i64 ((rd_T59 l1 x13_1).f0), .int .i64 ((rd_T59 l1 x13_1).f1)] 59 (0, 0)) (by (with_reducible repeat first | apply blk_drewN | apply blk_drew | apply blk_alloc); refine blk_put (cs := #[.int .i64 ((rd_T59 l1 x13_1).f0), .int .i64 0]) ?_ 1 _ rfl; (with_reducible repeat first | apply blk_drewN | apply blk_drew | apply blk_alloc); refine blk_put (cs := #[.int .i64 0, .int .i64 0]) ?_ 0 _ rfl; (with_reducible repeat first | apply blk_drewN | apply blk_drew | apply blk_alloc); exact BK108.out) hb); replace HB := sA (below_step sH hb); (try clear hb); (try clear hb2); (try clear hk); (try clear hi); (try clear ho0)))
       go_roundg k1
       case measure => have := HK1.out; omega
       case rel => exact ⟨(t109), (wrap64 (x13_1 + 1)), (by first | rfl | (simp; done) | (simp [*]; done)), H', ⟨by have := HK1.out; omega⟩, ⟨sR (Kd.R_mono HO111.out (fun _ hk => trivial))⟩, ⟨sH⟩⟩
      ·rw [if_neg c9] at H
       exact absurd H (by simp)
     ·rw [if_neg c8] at H
      exact absurd H (by simp)
    ·rw [if_neg c7] at H
     have c7b0 : decide (x13_1 < (l1.length : Int)) = false := decide_eq_false c7
     clear c7
     obtain rfl := Option.some.inj H
     go_wp2
     go_ret
     exact ⟨_, by first | rfl | (simp [errW_none, errW_some] <;> rfl) | (simp [*, errW_none, errW_some] <;> rfl), by (with_reducible repeat (first | apply Kd.R_alloc | apply Kd.R_drewN | apply Kd.R_drew)); exact HO_5.out, by repeat (first | (with_reducible first | exact HB.out | apply sLA | apply sLN | apply sLD) | exact HB.out)⟩
 ·rw [if_neg c3] at H
  exact absurd H (by simp)

end Go.Proofs.Ytligcknlmbgbiaa.P

namespace Go.Proofs.Ytligcknlmbgbiaa.P
open Go.RowKit Go.Proofs.YtligcknlmbgbiaaW.PrintWords Go.Proofs.YtligcknlmbgbiaaW.PrintLast Go.Proofs.YtligcknlmbgbiaaW.PrintMore
attribute [local go_sem] max2_int min2_int max_two min_two max_three min_three max_four min_four
set_option linter.unusedVariables false
set_option linter.unusedSimpArgs false

/-! ### spec_l11Hear: function 41 -/
mutual
def spec_l11Hear.l0 : Nat → List Int → Int → Int → List (S59) → List Int → Int → List (S59) → Option (Int × (List (S59)) × List Int × List Int × List Int × Bool)
  | 0, _, _, _, _, _, _, _ => none
  | k + 1, x9, x11, x102000, x102001, x102002, x107000, x107001 => if x11 < x102000 then ((spec_l2Has.f k x107001 x11).bind fun t107 => (if t107 = true then ((spec_l2Has.f k x102001 x11).bind fun t108 => (if t108 = true then (spec_l11Hear.l0 k x9 (wrap64 (x11 + 1)) x102000 x102001 x102002 x107000 x107001) else (if x9.length < 17592186044416 then (spec_l11Hear.l0 k (x9 ++ [x11]) (wrap64 (x11 + 1)) x102000 x102001 x102002 x107000 x107001) else (none)))) else (spec_l11Hear.l0 k x9 (wrap64 (x11 + 1)) x102000 x102001 x102002 x107000 x107001))) else (if (x107001.length : Int) > 0 then (if 0 ≤ (wrap64 ((x107001.length : Int) - 1)) then (if (wrap64 ((x107001.length : Int) - 1)) < (x107001.length : Int) then (spec_l11Hear.j1 k x9 ([] : List Int) (wrap64 (((rd_T59 x107001 (wrap64 ((x107001.length : Int) - 1))).f1) - 1)) x102000 x102001 x102002 x107000 x107001) else (none)) else (none)) else (spec_l11Hear.j1 k x9 ([] : List Int) (-1) x102000 x102001 x102002 x107000 x107001))
def spec_l11Hear.j1 : Nat → List Int → List Int → Int → Int → List (S59) → List Int → Int → List (S59) → Option (Int × (List (S59)) × List Int × List Int × List Int × Bool)
  | 0, _, _, _, _, _, _, _, _ => none
  | k + 1, x9, x10, x12, x102000, x102001, x102002, x107000, x107001 => spec_l11Hear.l1 k x9 x10 x12 0 x102000 x102001 x102002 x107000 x107001 ([] : List Int)
def spec_l11Hear.l1 : Nat → List Int → List Int → Int → Int → Int → List (S59) → List Int → Int → List (S59) → List Int → Option (Int × (List (S59)) × List Int × List Int × List Int × Bool)
  | 0, _, _, _, _, _, _, _, _, _, _ => none
  | k + 1, x9, x10, x12, x14, x102000, x102001, x102002, x107000, x107001, x107002 => if x14 < x102000 then ((spec_l2Has.f k x107001 x14).bind fun t113 => (if t113 = true then (spec_l11Hear.l1 k x9 x10 x12 (wrap64 (x14 + 1)) x102000 x102001 x102002 x107000 x107001 x107002) else ((spec_l1Has.f k x102002 x14).bind fun t114 => (if t114 = true then (spec_l11Hear.j3 k x9 x10 x12 x14 t114 true x102000 x102001 x102002 x107000 x107001 x107002) else (spec_l11Hear.j3 k x9 x10 x12 x14 t114 (decide (x12 ≥ (wrap64 (x14 + 3)))) x102000 x102001 x102002 x107000 x107001 x107002))))) else (some (x107000, x107001, x107002, x9, x10, decide ((x107001.length : Int) ≤ 20)))
def spec_l11Hear.j3 : Nat → List Int → List Int → Int → Int → Bool → Bool → Int → List (S59) → List Int → Int → List (S59) → List Int → Option (Int × (List (S59)) × List Int × List Int × List Int × Bool)
  | 0, _, _, _, _, _, _, _, _, _, _, _, _ => none
  | k + 1, x9, x10, x12, x14, x15, x77, x102000, x102001, x102002, x107000, x107001, x107002 => if x77 = true then (if x107002.length < 17592186044416 then ((some (x107002 ++ [x14] : List Int)).bind fun y115 => (if x15 = true then (spec_l11Hear.l1 k x9 x10 x12 (wrap64 (x14 + 1)) x102000 x102001 x102002 x107000 x107001 y115) else (if x12 ≥ (wrap64 (x14 + 3)) then (if x10.length < 17592186044416 then (spec_l11Hear.l1 k x9 (x10 ++ [x14]) x12 (wrap64 (x14 + 1)) x102000 x102001 x102002 x107000 x107001 y115) else (none)) else (spec_l11Hear.l1 k x9 x10 x12 (wrap64 (x14 + 1)) x102000 x102001 x102002 x107000 x107001 y115)))) else (none)) else (if x15 = true then (spec_l11Hear.l1 k x9 x10 x12 (wrap64 (x14 + 1)) x102000 x102001 x102002 x107000 x107001 x107002) else (if x12 ≥ (wrap64 (x14 + 3)) then (if x10.length < 17592186044416 then (spec_l11Hear.l1 k x9 (x10 ++ [x14]) x12 (wrap64 (x14 + 1)) x102000 x102001 x102002 x107000 x107001 x107002) else (none)) else (spec_l11Hear.l1 k x9 x10 x12 (wrap64 (x14 + 1)) x102000 x102001 x102002 x107000 x107001 x107002)))
end
def spec_l11Hear.f (k : Nat) (a0_0 : Int) (l0_1 : List (S59)) (l0_2 : List Int) (l1 : List (S59)) : Option (Int × (List (S59)) × List Int × List Int × List Int × Bool) := (spec_l2Join.f k l0_1 l1).bind fun t103 => (spec_l11Hear.l0 k ([] : List Int) 0 a0_0 l0_1 l0_2 a0_0 t103)
def spec_l11Hear.T1 : Bool × List (List Nat × List Nat) := (true, [([], []), ([0], [0]), ([], []), ([2], [2]), ([], []), ([3, 4], [3, 4]), ([1, 5], [1, 5]), ([], []), ([7, 6, 5, 0, 1, 2, 3, 4, 5, 6, 7], [6, 7])])
def spec_l11Hear.B1 : List Nat := [0, 1, 0, 4, 0, 28, 63, 0, 255]
theorem spec_l11Hear.tab1 : rtab .any (opsOf Try.f41 1) = spec_l11Hear.T1 := by kernel_rfl
theorem spec_l11Hear.bits1 : waitsOk spec_l11Hear.T1.2 spec_l11Hear.B1 = true := by kernel_rfl
def spec_l11Hear.T21 : Bool × List (List Nat × List Nat) := (true, [([], []), ([], []), ([], []), ([], []), ([3], [3]), ([4], [4]), ([5], [5]), ([0, 0], [0]), ([1, 7, 0, 1, 7], [1]), ([2, 8, 0, 1, 2, 7, 8], [2]), ([6, 9, 0, 1, 2, 3, 4, 5, 6, 7, 8, 9], [6])])
def spec_l11Hear.B21 : List Nat := [0, 0, 0, 0, 8, 24, 56, 1, 131, 391, 1023]
theorem spec_l11Hear.tab21 : rtab .any (opsOf Try.f41 21) = spec_l11Hear.T21 := by kernel_rfl
theorem spec_l11Hear.bits21 : waitsOk spec_l11Hear.T21.2 spec_l11Hear.B21 = true := by kernel_rfl
set_option maxHeartbeats 8000000 in
set_option maxRecDepth 100000 in
theorem spec_l11Hear.calls (k : Nat) (a0_0 : Int) (A0_1 : Option Addr) (c0_1 : Nat) (l0_1 : List (S59)) (A0_2 : Option Addr) (c0_2 : Nat) (l0_2 : List Int) (A1 : Option Addr) (c1 : Nat) (l1 : List (S59)) (r1 : Int) (r2 : List (S59)) (r3 : List Int) (r4 : List Int) (r5 : List Int) (r6 : Bool) (w : World) (hr0_1 : Kd.C k59 w A0_1 l0_1.length l0_1) (hc0_1 : l0_1.length ≤ c0_1) (hr0_2 : Kd.C (Kd.int .i64) w A0_2 l0_2.length l0_2) (hc0_2 : l0_2.length ≤ c0_2) (hr1 : Kd.C k59 w A1 l1.length l1) (hc1 : l1.length ≤ c1) (h : spec_l11Hear.f k a0_0 l0_1 l0_2 l1 = some (r1, r2, r3, r4, r5, r6)) :
  Calls Try.prog 41 #[.agg #[.int .i64 a0_0, .slice A0_1 l0_1.length c0_1, .slice A0_2 l0_2.length c0_2], .slice A1 l1.length c1] w fun e w' => ∃ v1_ v2_ v3_ v4_ : Value, e = .returned (.tuple #[.agg #[.int .i64 r1, v1_, v2_], v3_, v4_, .bool r6]) ∧ Kd.R k59 59 w' w.heap.size (fun _ => True) v1_ r2 ∧ Kd.R (Kd.int .i64) 3 w' w.heap.size (fun k_ => some k_ ≠ (v3_ : Value).ownBlock ∧ some k_ ≠ (v4_ : Value).ownBlock) v2_ r3 ∧ Kd.R (Kd.int .i64) 3 w' w.heap.size (fun k_ => some k_ ≠ (v2_ : Value).ownBlock ∧ some k_ ≠ (v4_ : Value).ownBlock) v3_ r4 ∧ Kd.R (Kd.int .i64) 3 w' w.heap.size (fun k_ => some k_ ≠ (v2_ : Value).ownBlock ∧ some k_ ≠ (v3_ : Value).ownBlock) v4_ r5 ∧ Below w.heap.size w w' := by
 have hu31 := Try.underlying31
 have HR0_1 := sA hr0_1
 have HC0_1 := sA hc0_1
 clear hr0_1 hc0_1
 have HR0_2 := sA hr0_2
 have HC0_2 := sA hc0_2
 clear hr0_2 hc0_2
 have HR1 := sA hr1
 have HC1 := sA hc1
 clear hr1 hc1
 have HB := sA (Below.refl w.heap.size w)
 have H : ((spec_l2Join.f k l0_1 l1).bind fun t103 => (spec_l11Hear.l0 k ([] : List Int) 0 a0_0 l0_1 l0_2 a0_0 t103)) = some (r1, r2, r3, r4, r5, r6) := h
 clear h
 obtain ⟨t103, A3, H⟩ := sN H
 have H' := sA H
 clear H
 go_enter Try.func41, Try.ntmps41
 try go_wp2_with (first | ((with_reducible refine gate_dst (N := 2) rfl ?_); refine box_event ?hg (N := 2) ?hd (cs := #[.int .i64 a0_0, .slice A0_1 l0_1.length c0_1, .slice A0_2 l0_2.length c0_2]) (t := 31) ?hr ?_; (case hd => rfl); (case hg => rfl); (case hr => first | (go_simp; done) | (go_simp; rfl)); intro gb101 hg w4 hbox hb; have BK101 := sA (hbox); have GW101 := sA ((by rw [hg]; exact (below_size sH) : w.heap.size ≤ gb101)); have GE101 := sA ((by rw [hg]; exact (below_size sH) : w.heap.size ≤ gb101)); replace HB := sA (below_step sH hb); clear hb hbox hg) | ((with_reducible refine gate_dst (N := 4) rfl ?_); refine box_event ?hg (N := 4) ?hd (cs := #[.int .i64 0, .slice none 0 0, .slice none 0 0]) (t := 31) ?hr ?_; (case hd => rfl); (case hg => rfl); (case hr => first | (go_simp; done) | (go_simp; rfl)); intro gb102 hg w5 hbox hb; have BK102 := sA (hbox); have GW102 := sA ((by rw [hg]; exact (below_size sH) : w.heap.size ≤ gb102)); have GE102 := sA ((by rw [hg]; exact (below_size sH) : w.heap.size ≤ gb102)); replace HB := sA (below_step sH hb); have NB101_102 := sA ((by rw [hg]; exact Nat.ne_of_lt (blk_lt (sB BK101.out)) : gb101 ≠ gb102)); have NB102_101 := sA ((by rw [hg]; exact Nat.ne_of_gt (blk_lt (sB BK101.out)) : gb102 ≠ gb101)); replace BK101 := sJ BK101 hb; clear hb hbox hg))
 replace BK101 := sA (blk_drew BK101.out)
 replace BK102 := sA (blk_drew BK102.out)
 replace HB := sA (below_drew1 HB.out)
 refine start_ (n := 9) (S := fun w' => w'.cell? ⟨gb101, 0, none⟩ = some (.int .i64 a0_0) ∧ w'.cell? ⟨gb101, 1, none⟩ = some (.slice A0_1 l0_1.length c0_1) ∧ w'.cell? ⟨gb101, 2, none⟩ = some (.slice A0_2 l0_2.length c0_2)) (ds := []) (sM 9 0) (by kernel_rfl) rfl rfl ⟨sC BK101 0 rfl, sC BK101 1 rfl, sC BK101 2 rfl⟩ (fun hHeld => ?_); refine with_tabW spec_l11Hear.tab1 spec_l11Hear.bits1 (fun HT_ HW_ => ?_)
 generalize w5.drew = w6 at BK101 BK102 HB hHeld ⊢
 refine sP (v := ?_) (a' := ?_) 0 16 (sM 9 1) HT_ ?_ ?_ ?_; rotate_left 2
 ·intro w'; go_simp; with_reducible rfl
 ·simp only [Act.put, sI, sZ, sV, i64_w, i32_w]; rfl
 refine sP (v := ?_) (a' := ?_) 2 18 (sM 9 5) HT_ ?_ ?_ ?_; rotate_left 2
 ·intro w'; go_simp; with_reducible rfl
 ·simp only [Act.put, sI, sZ, sV, i64_w, i32_w]; rfl
 refine sP (v := ?_) (a' := ?_) 4 20 (sM 9 21) HT_ ?_ ?_ ?_; rotate_left 2
 ·intro w'; go_simp; with_reducible rfl
 ·simp only [Act.put, sI, sZ, sV, i64_w, i32_w]; rfl
 refine sT (v := ?_) (a' := ?_) 1 17 (sM 9 23) HT_ HW_ hHeld ?_ ?_ ?_; rotate_left 2
 ·rintro w' ⟨s0, s1, s2⟩; go_simp; with_reducible rfl
 ·simp only [Act.put, sI, sZ, sV, i64_w, i32_w]; rfl
 refine sT (v := ?_) (a' := ?_) 3 19 (sM 9 31) HT_ HW_ hHeld ?_ ?_ ?_; rotate_left 2
 ·rintro w' ⟨s0, s1, s2⟩; go_simp; with_reducible rfl
 ·simp only [Act.put, sI, sZ, sV, i64_w, i32_w]; rfl
 refine join_ (σ := Value × Nat) 1 (sM 9 255) (fun s_ => [(21, s_.1), (8, .pointer (some ⟨s_.2, 0, none⟩)), (22, .agg #[.int .i64 a0_0, s_.1, .slice none 0 0])]) (fun s_ w' => (w'.cell? ⟨gb101, 0, none⟩ = some (.int .i64 a0_0) ∧ w'.cell? ⟨gb101, 1, none⟩ = some (.slice A0_1 l0_1.length c0_1) ∧ w'.cell? ⟨gb101, 2, none⟩ = some (.slice A0_2 l0_2.length c0_2)) ∧ (Kd.R k59 59 w' w.heap.size (fun _ => True) s_.1 t103) ∧ (w'.heap[gb101]? = some (.cells #[.int .i64 a0_0, .slice A0_1 l0_1.length c0_1, .slice A0_2 l0_2.length c0_2] 31 (0, 0))) ∧ (w'.heap[gb102]? = some (.cells #[.int .i64 0, .slice none 0 0, .slice none 0 0] 31 (0, 0))) ∧ (w'.heap[s_.2]? = some (.cells #[.int .i64 0, .slice none 0 0, .slice none 0 0] 31 (0, 0))) ∧ (w.heap.size ≤ s_.2) ∧ (w.heap.size ≤ s_.2) ∧ (gb101 ≠ s_.2) ∧ (s_.2 ≠ gb101) ∧ (gb102 ≠ s_.2) ∧ (s_.2 ≠ gb102) ∧ (Below w.heap.size w w')) ?_ ?_
 rotate_left
 ·intro hCont
  refine two_ (i := 5) (j := 7) (Ni := some 21) (Nj := some 8) (sM 9 63) (sM 9 159) rfl rfl rfl rfl (two_of HT_.out (by kernel_rfl)) (by decide) (by decide) (fun K hK => ?_) (fun K hK => ?_)
  ·skip
   refine goes_ Try.func66 (by kernel_rfl) rfl #[.slice A0_1 l0_1.length c0_1, .slice A1 l1.length c1] (by rfl) rfl rfl sG ?_
   with_reducible refine (spec_l2Join.calls k _ _ l0_1 _ _ l1 t103 _ ?side1 ?side2 ?side3 ?side4 A3.out).mono ?_
   (case side1 => exact sK (Kd.C_below HR0_1.out HB.out))
   (case side2 => exact HC0_1.out)
   (case side3 => exact sK (Kd.C_below HR1.out HB.out))
   (case side4 => exact HC1.out)
   rintro e w7 ⟨v104, rfl, ho0, hb⟩
   refine ⟨_, rfl, ?_⟩
   have HO105 := sA (Kd.R_lower ho0 (below_size sH))
   replace BK101 := sJ BK101 hb
   replace BK102 := sJ BK102 hb
   replace HB := sA (below_step sH hb)
   (try clear hb)
   (try clear hb2)
   (try clear hk)
   (try clear hi)
   (try clear ho0)
   obtain ⟨Ao8, co8, eo8⟩ := Kd.R_slice HO105.out
   (first | subst eo8 | (injection eo8 with f1_ f2_ f3_; have f4_ := f1_.symm; have f5_ := f3_.symm; clear f1_ f2_ f3_; subst f4_; subst f5_))
   refine hK.out _ _ ⟨sC BK101 0 rfl, sC BK101 1 rfl, sC BK101 2 rfl⟩ (fun hHeld => ?_)
   clear hK K
   refine norm_ (a' := ?_) ?_ ?_
   rotate_left
   ·show Act.put _ (some 21) _ = _
    simp only [Act.put, sI, sZ, sV, i64_w, i32_w]
    rfl
   refine sP (v := ?_) (a' := ?_) 6 22 (sM 9 127) HT_ ?_ ?_ ?_; rotate_left 2
   ·intro w'; go_simp; with_reducible rfl
   ·simp only [Act.put, sI, sZ, sV, i64_w, i32_w]; rfl
   refine one_ (i := 7) (N := some 8) (sM 9 255) rfl rfl (one_of HT_.out (by kernel_rfl)) (by decide) (fun K hK => ?_)
   refine box_step ?hg (N := 8) ?hd (cs := #[.int .i64 0, .slice none 0 0, .slice none 0 0]) (t := 31) ?hr ?_; (case hd => rfl); (case hg => rfl); (case hr => first | (go_simp; done) | (go_simp; rfl))
   intro gb106 hg w9 hbox hb
   replace HO105 := sS HO105 hb
   have BK106 := sA (hbox)
   have GW106 := sA ((by rw [hg]; exact (below_size sH) : w.heap.size ≤ gb106))
   have GE106 := sA ((by rw [hg]; exact (below_size sH) : w.heap.size ≤ gb106))
   replace HB := sA (below_step sH hb)
   have NB101_106 := sA ((by rw [hg]; exact Nat.ne_of_lt (blk_lt (sB BK101.out)) : gb101 ≠ gb106))
   have NB106_101 := sA ((by rw [hg]; exact Nat.ne_of_gt (blk_lt (sB BK101.out)) : gb106 ≠ gb101))
   replace BK101 := sJ BK101 hb
   have NB102_106 := sA ((by rw [hg]; exact Nat.ne_of_lt (blk_lt (sB BK102.out)) : gb102 ≠ gb106))
   have NB106_102 := sA ((by rw [hg]; exact Nat.ne_of_gt (blk_lt (sB BK102.out)) : gb106 ≠ gb102))
   replace BK102 := sJ BK102 hb
   clear hb hbox hg
   refine hK.out _ _ ⟨sC BK101 0 rfl, sC BK101 1 rfl, sC BK101 2 rfl⟩ (fun hHeld => ?_)
   clear hK K
   refine norm_ (a' := ?_) ?_ ?_
   rotate_left
   ·show Act.put _ (some 8) _ = _
    simp only [Act.put, sI, sZ, sV, i64_w, i32_w]
    rfl
   exact norm_ (by simp only [putAll, Act.put, sI, sZ, sV]) (hCont (.slice Ao8 t103.length co8, gb106) _ ⟨hHeld, (sR HO105.out), (sB BK101.out), (sB BK102.out), (sB BK106.out), GW106.out, GE106.out, NB101_106.out, NB106_101.out, NB102_106.out, NB106_102.out, sH⟩)
  ·skip
   refine box_step ?hg (N := 8) ?hd (cs := #[.int .i64 0, .slice none 0 0, .slice none 0 0]) (t := 31) ?hr ?_; (case hd => rfl); (case hg => rfl); (case hr => first | (go_simp; done) | (go_simp; rfl))
   intro gb106 hg w7 hbox hb
   have BK106 := sA (hbox)
   have GW106 := sA ((by rw [hg]; exact (below_size sH) : w.heap.size ≤ gb106))
   have GE106 := sA ((by rw [hg]; exact (below_size sH) : w.heap.size ≤ gb106))
   replace HB := sA (below_step sH hb)
   have NB101_106 := sA ((by rw [hg]; exact Nat.ne_of_lt (blk_lt (sB BK101.out)) : gb101 ≠ gb106))
   have NB106_101 := sA ((by rw [hg]; exact Nat.ne_of_gt (blk_lt (sB BK101.out)) : gb106 ≠ gb101))
   replace BK101 := sJ BK101 hb
   have NB102_106 := sA ((by rw [hg]; exact Nat.ne_of_lt (blk_lt (sB BK102.out)) : gb102 ≠ gb106))
   have NB106_102 := sA ((by rw [hg]; exact Nat.ne_of_gt (blk_lt (sB BK102.out)) : gb106 ≠ gb102))
   replace BK102 := sJ BK102 hb
   clear hb hbox hg
   refine hK.out _ _ ⟨sC BK101 0 rfl, sC BK101 1 rfl, sC BK101 2 rfl⟩ (fun hHeld => ?_)
   clear hK K
   refine norm_ (a' := ?_) ?_ ?_
   rotate_left
   ·show Act.put _ (some 8) _ = _
    simp only [Act.put, sI, sZ, sV, i64_w, i32_w]
    rfl
   refine one_ (i := 5) (N := some 21) (sM 9 191) rfl rfl (one_of HT_.out (by kernel_rfl)) (by decide) (fun K hK => ?_)
   refine goes_ Try.func66 (by kernel_rfl) rfl #[.slice A0_1 l0_1.length c0_1, .slice A1 l1.length c1] (by rfl) rfl rfl sG ?_
   with_reducible refine (spec_l2Join.calls k _ _ l0_1 _ _ l1 t103 _ ?side1 ?side2 ?side3 ?side4 A3.out).mono ?_
   (case side1 => exact sK (Kd.C_below HR0_1.out HB.out))
   (case side2 => exact HC0_1.out)
   (case side3 => exact sK (Kd.C_below HR1.out HB.out))
   (case side4 => exact HC1.out)
   rintro e w8 ⟨v104, rfl, ho0, hb⟩
   refine ⟨_, rfl, ?_⟩
   have HO105 := sA (Kd.R_lower ho0 (below_size sH))
   replace BK101 := sJ BK101 hb
   replace BK102 := sJ BK102 hb
   replace BK106 := sJ BK106 hb
   replace HB := sA (below_step sH hb)
   (try clear hb)
   (try clear hb2)
   (try clear hk)
   (try clear hi)
   (try clear ho0)
   obtain ⟨Ao9, co9, eo9⟩ := Kd.R_slice HO105.out
   (first | subst eo9 | (injection eo9 with f1_ f2_ f3_; have f4_ := f1_.symm; have f5_ := f3_.symm; clear f1_ f2_ f3_; subst f4_; subst f5_))
   refine hK.out _ _ ⟨sC BK101 0 rfl, sC BK101 1 rfl, sC BK101 2 rfl⟩ (fun hHeld => ?_)
   clear hK K
   refine norm_ (a' := ?_) ?_ ?_
   rotate_left
   ·show Act.put _ (some 21) _ = _
    simp only [Act.put, sI, sZ, sV, i64_w, i32_w]
    rfl
   refine sP (v := ?_) (a' := ?_) 6 22 (sM 9 255) HT_ ?_ ?_ ?_; rotate_left 2
   ·intro w'; go_simp; with_reducible rfl
   ·simp only [Act.put, sI, sZ, sV, i64_w, i32_w]; rfl
   exact norm_ (by simp only [putAll, Act.put, sI, sZ, sV]) (hCont (.slice Ao9 t103.length co9, gb106) _ ⟨hHeld, (sR HO105.out), (sB BK101.out), (sB BK102.out), (sB BK106.out), GW106.out, GE106.out, NB101_106.out, NB106_101.out, NB102_106.out, NB106_102.out, sH⟩)
 rintro ⟨v104, gb106⟩ w10 ⟨hS_, h0_, h1_, h2_, h3_, h4_, h5_, h6_, h7_, h8_, h9_, h10_⟩
 have n0_ : Aside0 (Kd.R k59 59 w10 w.heap.size (fun _ => True) v104 t103) := ⟨h0_⟩
 have n1_ : Aside0 (w10.heap[gb101]? = some (.cells #[.int .i64 a0_0, .slice A0_1 l0_1.length c0_1, .slice A0_2 l0_2.length c0_2] 31 (0, 0))) := ⟨h1_⟩
 have n2_ : Aside0 (w10.heap[gb102]? = some (.cells #[.int .i64 0, .slice none 0 0, .slice none 0 0] 31 (0, 0))) := ⟨h2_⟩
 have n3_ : Aside0 (w10.heap[gb106]? = some (.cells #[.int .i64 0, .slice none 0 0, .slice none 0 0] 31 (0, 0))) := ⟨h3_⟩
 have n4_ : Aside0 (w.heap.size ≤ gb106) := ⟨h4_⟩
 have n5_ : Aside0 (w.heap.size ≤ gb106) := ⟨h5_⟩
 have n6_ : Aside0 (gb101 ≠ gb106) := ⟨h6_⟩
 have n7_ : Aside0 (gb106 ≠ gb101) := ⟨h7_⟩
 have n8_ : Aside0 (gb102 ≠ gb106) := ⟨h8_⟩
 have n9_ : Aside0 (gb106 ≠ gb102) := ⟨h9_⟩
 have n10_ : Aside0 (Below w.heap.size w w10) := ⟨h10_⟩
 clear BK101 BK102 HB
 clear h0_ h1_ h2_ h3_ h4_ h5_ h6_ h7_ h8_ h9_ h10_
 have HO105 := n0_
 have BK101 := n1_
 have BK102 := n2_
 have BK106 := n3_
 have GW106 := n4_
 have GE106 := n5_
 have NB101_106 := n6_
 have NB106_101 := n7_
 have NB102_106 := n8_
 have NB106_102 := n9_
 have HB := n10_
 clear n0_ n1_ n2_ n3_ n4_ n5_ n6_ n7_ n8_ n9_ n10_
 have hHeld : w10.cell? ⟨gb101, 0, none⟩ = some (.int .i64 a0_0) ∧ w10.cell? ⟨gb101, 1, none⟩ = some (.slice A0_1 l0_1.length c0_1) ∧ w10.cell? ⟨gb101, 2, none⟩ = some (.slice A0_2 l0_2.length c0_2) := hS_
 obtain ⟨Ao11, co11, eo11⟩ := Kd.R_slice HO105.out
 (first | subst eo11 | (injection eo11 with f1_ f2_ f3_; have f4_ := f1_.symm; have f5_ := f3_.symm; clear f1_ f2_ f3_; subst f4_; subst f5_))
 refine norm_ (a' := ?_) ?_ ?_
 rotate_left
 ·simp only [putAll, Act.put, sI, sZ, sV]
  rfl
 refine one_ (i := 8) (N := none) (sM 9 511) rfl rfl (one_of HT_.out (by kernel_rfl)) (by decide) (fun K hK => ?_)
 have hs12 : w10.cell? ⟨gb106, 0, none⟩ = some (.int .i64 0) := sC BK106 0 rfl
 have hfs12 := blk_frozen BK106.out 0
 have hns12_0 := NB101_106.out
 have hns12_1 := NB102_106.out
 have hms12_0 := NB106_101.out
 have hms12_1 := NB106_102.out
 have hs13 : w10.cell? ⟨gb106, 1, none⟩ = some (.slice none 0 0) := sC BK106 1 rfl
 have hfs13 := blk_frozen BK106.out 1
 have hns13_0 := NB101_106.out
 have hns13_1 := NB102_106.out
 have hms13_0 := NB106_101.out
 have hms13_1 := NB106_102.out
 have hs14 : w10.cell? ⟨gb106, 2, none⟩ = some (.slice none 0 0) := sC BK106 2 rfl
 have hfs14 := blk_frozen BK106.out 2
 have hns14_0 := NB101_106.out
 have hns14_1 := NB102_106.out
 have hms14_0 := NB106_101.out
 have hms14_1 := NB106_102.out
 refine skip_ (w1 := ?_) (by rfl) rfl ?_ ?_
 rotate_left
 ·go_simp
  rfl
 refine hK.out _ _ ⟨((cell_far (p := ⟨gb106, _, none⟩) NB101_106.out _).trans (((cell_far (p := ⟨gb106, _, none⟩) NB101_106.out _).trans (((cell_far (p := ⟨gb106, _, none⟩) NB101_106.out _).trans (hHeld.1)))))), ((cell_far (p := ⟨gb106, _, none⟩) NB101_106.out _).trans (((cell_far (p := ⟨gb106, _, none⟩) NB101_106.out _).trans (((cell_far (p := ⟨gb106, _, none⟩) NB101_106.out _).trans (hHeld.2.1)))))), ((cell_far (p := ⟨gb106, _, none⟩) NB101_106.out _).trans (((cell_far (p := ⟨gb106, _, none⟩) NB101_106.out _).trans (((cell_far (p := ⟨gb106, _, none⟩) NB101_106.out _).trans (hHeld.2.2))))))⟩ (fun hHeld => ?_)
 clear hK K
 refine done_ (done_of HT_.out (by kernel_rfl)) ?_
 try go_wp2
 go_loopg [9, 11] k (fun kq v9 v11 w' => ∃ (x9_1 : List Int) (x11_1 : Int), v11 = .int .i64 x11_1 ∧ Aside0 (spec_l11Hear.l0 kq x9_1 x11_1 a0_0 l0_1 l0_2 a0_0 t103 = some (r1, r2, r3, r4, r5, r6)) ∧ Aside0 (kq ≤ k) ∧ Aside0 (Kd.R (Kd.int .i64) 3 w' w.heap.size (fun _ => True) v9 x9_1) ∧ Aside0 (Kd.R k59 59 w' w.heap.size (fun _ => True) (.slice Ao11 t103.length co11) t103) ∧ Aside0 (w'.heap[gb101]? = some (.cells #[.int .i64 a0_0, (.slice A0_1 l0_1.length c0_1), (.slice A0_2 l0_2.length c0_2)] 31 (0, 0))) ∧ Aside0 (w'.heap[gb102]? = some (.cells #[.int .i64 0, (.slice none 0 0), (.slice none 0 0)] 31 (0, 0))) ∧ Aside0 (w'.heap[gb106]? = some (.cells #[.int .i64 a0_0, (.slice Ao11 t103.length co11), (.slice none 0 0)] 31 (0, 0))) ∧ Aside0 (Below w.heap.size w w'))
 case atStart => exact ⟨(([] : List Int)), (0), (by first | rfl | (simp; done) | (simp [*]; done)), H', ⟨Nat.le_refl _⟩, ⟨by first | exact Kd.R_nil _ _ _ _ _ | exact Kd.N_nil _ _ _ _ _ | exact Kd.V_nil _ _ _ _ _ | exact Kd.Q_nil _ _ _ _ _ | exact Kd.S_nil _ _ _ _ _⟩, ⟨sR (Kd.R_mono (Kd.R_far (p := ⟨gb106, 2, none⟩) (Kd.R_far (p := ⟨gb106, 1, none⟩) (Kd.R_far (p := ⟨gb106, 0, none⟩) (Kd.R_types HO105.out BK106.out (by decide)) (fun _ hk => hk.2) (.int .i64 a0_0)) (fun _ hk => hk.2) (.slice Ao11 t103.length co11)) (fun _ hk => hk.2) (.slice none 0 0)) (fun _ hk => trivial))⟩, ⟨sF BK101 NB101_106⟩, ⟨sF BK102 NB102_106⟩, ⟨by (with_reducible repeat first | apply blk_drewN | apply blk_drew | apply blk_alloc); refine blk_put (cs := #[.int .i64 a0_0, .slice Ao11 t103.length co11, .slice none 0 0]) ?_ 2 _ rfl; (with_reducible repeat first | apply blk_drewN | apply blk_drew | apply blk_alloc); refine blk_put (cs := #[.int .i64 a0_0, .slice none 0 0, .slice none 0 0]) ?_ 1 _ rfl; (with_reducible repeat first | apply blk_drewN | apply blk_drew | apply blk_alloc); refine blk_put (cs := #[.int .i64 0, .slice none 0 0, .slice none 0 0]) ?_ 0 _ rfl; (with_reducible repeat first | apply blk_drewN | apply blk_drew | apply blk_alloc); exact BK106.out⟩, ⟨sH⟩⟩
 case round =>
  clear H'
  (try clear c1); (try clear p2); (try clear c4); (try clear c6)
  obtain ⟨x9_1, x11_1, rfl, HA, HK1, HO_9, HO_107001, BK101, BK102, BK106, HB⟩ := hrel
  cases gk with
  | zero => exact absurd HA.out (by simp [spec_l11Hear.l0])
  | succ k1 =>
   have H := HA.out
   clear HA
   simp only [spec_l11Hear.l0] at H
   by_cases c15 : x11_1 < a0_0
   ·rw [if_pos c15] at H
    have c15b0 : decide (x11_1 < a0_0) = true := decide_eq_true c15
    clear c15
    obtain ⟨t107, A16, H⟩ := sN H
    by_cases c17 : t107 = true
    ·subst c17
     replace H := sY H
     obtain ⟨t108, A18, H⟩ := sN H
     by_cases c19 : t108 = true
     ·subst c19
      replace H := sY H
      have H' := sA H
      clear H
      have := NB101_102.out
      have := NB102_101.out
      have := NB101_106.out
      have := NB106_101.out
      obtain ⟨_, _, _, _, _, _⟩ := sD3 BK101
      have := NB106_102.out
      have := NB102_106.out
      obtain ⟨_, _, _, _, _, _⟩ := sD3 BK106
      go_wp2_with (first | ((with_reducible refine gate_callee (f := 61) rfl ?_); refine goesL_ (some 32) rfl rfl Try.func61 (by kernel_rfl) rfl #[.slice Ao11 t103.length co11, .int .i64 x11_1] rfl sG ?_; (with_reducible refine (spec_l2Has.calls k1 _ _ t103 x11_1 true _ ?side1 ?side2 A16.out).mono ?_); (case side1 => exact sK (Kd.R_reads' HO_107001.out).2.2); (case side2 => exact (Kd.R_reads' HO_107001.out).2.1); rintro e w25 ⟨rfl, hb⟩; refine ⟨_, rfl, ?_⟩; replace HO_9 := sS HO_9 hb; replace HO_107001 := sS HO_107001 hb; replace BK101 := sJ BK101 hb; replace BK102 := sJ BK102 hb; replace BK106 := sJ BK106 hb; replace HB := sA (below_step sH hb); (try clear hb); (try clear hb2); (try clear hk); (try clear hi); obtain ⟨_, _, _, _, _, _⟩ := sD3 BK101) | (go_at_call 61; (with_reducible refine (spec_l2Has.calls k1 _ _ l0_1 x11_1 true _ ?side1 ?side2 A18.out).mono ?_); (case side1 => exact sK (Kd.C_below HR0_1.out HB.out)); (case side2 => exact HC0_1.out); rintro e w27 ⟨rfl, hb⟩; replace HO_9 := sS HO_9 hb; replace HO_107001 := sS HO_107001 hb; replace BK101 := sJ BK101 hb; replace BK102 := sJ BK102 hb; replace BK106 := sJ BK106 hb; replace HB := sA (below_step sH hb); (try clear hb); (try clear hb2); (try clear hk); (try clear hi)))
      go_roundg k1
      case measure => have := HK1.out; omega
      case rel => exact ⟨(x9_1), (wrap64 (x11_1 + 1)), (by first | rfl | (simp; done) | (simp [*]; done)), H', ⟨by have := HK1.out; omega⟩, ⟨sR HO_9.out⟩, ⟨sR HO_107001.out⟩, ⟨sB BK101.out⟩, ⟨sB BK102.out⟩, ⟨sB BK106.out⟩, ⟨sH⟩⟩
     ·replace c19 := Bool.eq_false_iff.mpr c19
      subst c19
      replace H := sX H
      by_cases c28 : x9_1.length < 17592186044416
      ·rw [if_pos c28] at H
       have LMc28 := sA c28
       clear c28
       obtain ⟨y109, hy109⟩ : ∃ y_ : List Int, y_ = (x9_1 ++ [x11_1]) := ⟨_, rfl⟩
       replace H : (spec_l11Hear.l0 k1 y109 (wrap64 (x11_1 + 1)) a0_0 l0_1 l0_2 a0_0 t103) = some (r1, r2, r3, r4, r5, r6) := by first | (rw [hy109]; with_reducible exact H) | (have H2_ := (Option.bind_some _ _).symm.trans H; rw [hy109]; with_reducible exact H2_) | (have H2_ := (Option.bind_some _ _).symm.trans H; with_reducible exact H2_) | with_reducible exact H | (rw [hy109]; exact H) | exact H
       have Ny109 := sA hy109
       clear hy109
       have H' := sA H
       clear H
       have := NB101_102.out
       have := NB102_101.out
       have := NB101_106.out
       have := NB106_101.out
       obtain ⟨_, _, _, _, _, _⟩ := sD3 BK101
       have := NB106_102.out
       have := NB102_106.out
       obtain ⟨_, _, _, _, _, _⟩ := sD3 BK106
       go_wp2_with (first | ((with_reducible refine gate_callee (f := 61) rfl ?_); refine goesL_ (some 32) rfl rfl Try.func61 (by kernel_rfl) rfl #[.slice Ao11 t103.length co11, .int .i64 x11_1] rfl sG ?_; (with_reducible refine (spec_l2Has.calls k1 _ _ t103 x11_1 true _ ?side1 ?side2 A16.out).mono ?_); (case side1 => exact sK (Kd.R_reads' HO_107001.out).2.2); (case side2 => exact (Kd.R_reads' HO_107001.out).2.1); rintro e w34 ⟨rfl, hb⟩; refine ⟨_, rfl, ?_⟩; replace HO_9 := sS HO_9 hb; replace HO_107001 := sS HO_107001 hb; replace BK101 := sJ BK101 hb; replace BK102 := sJ BK102 hb; replace BK106 := sJ BK106 hb; replace HB := sA (below_step sH hb); (try clear hb); (try clear hb2); (try clear hk); (try clear hi); obtain ⟨_, _, _, _, _, _⟩ := sD3 BK101) | (go_at_call 61; (with_reducible refine (spec_l2Has.calls k1 _ _ l0_1 x11_1 false _ ?side1 ?side2 A18.out).mono ?_); (case side1 => exact sK (Kd.C_below HR0_1.out HB.out)); (case side2 => exact HC0_1.out); rintro e w36 ⟨rfl, hb⟩; replace HO_9 := sS HO_9 hb; replace HO_107001 := sS HO_107001 hb; replace BK101 := sJ BK101 hb; replace BK102 := sJ BK102 hb; replace BK106 := sJ BK106 hb; replace HB := sA (below_step sH hb); (try clear hb); (try clear hb2); (try clear hk); (try clear hi)) | ((with_reducible refine gate_builtin (b := .append) (xs := #[.tmp 40, .tmp 42]) rfl ?_); at_builtin; refine Kd.R_append (Kd.int .i64) (w0 := w) w.heap.size rfl (.tmp 40) (.tmp 42) 23 3 (.int .i64 0) 8 rfl Try.underlying23 info3 rfl (by decide) (by omega) u9 x9_1 x11_1 [.int .i64 x11_1] (fun _ => True) (fun _ => False) rfl rfl ?aP (fun _ hk => hk.elim) ?aF ?aO ?aB ?aS ?aL ?_; (case aP => exact rfl); (case aB => exact sH); (case aF => exact (fun _ _ => trivial)); (case aO => exact (sR HO_9.out)); (case aS => exact (below_size sH)); (case aL => have := LMc28.out; omega); intro v110 w37 ho hb hg hat; rw [← Ny109.out] at ho; replace HO_107001 := sA (Kd.R_over' (sR HO_107001.out) (Kd.R_typed (sR HO_9.out)) (by decide) hg); replace BK101 := sA (blk_grown (g := gb101) (o := .cells #[.int .i64 a0_0, .slice A0_1 l0_1.length c0_1, .slice A0_2 l0_2.length c0_2] 31 (0, 0)) (sB BK101.out) hg (Kd.R_ne HO_9.out BK101.out (by decide))); replace BK102 := sA (blk_grown (g := gb102) (o := .cells #[.int .i64 0, .slice none 0 0, .slice none 0 0] 31 (0, 0)) (sB BK102.out) hg (Kd.R_ne HO_9.out BK102.out (by decide))); replace BK106 := sA (blk_grown (g := gb106) (o := .cells #[.int .i64 a0_0, .slice Ao11 t103.length co11, .slice none 0 0] 31 (0, 0)) (sB BK106.out) hg (Kd.R_ne HO_9.out BK106.out (by decide))); replace HB := sA (hb); have HO111 := sA (ho); clear HO_9; clear ho hb hg hat))
       go_roundg k1
       case measure => have := HK1.out; omega
       case rel => exact ⟨(y109), (wrap64 (x11_1 + 1)), (by first | rfl | (simp; done) | (simp [*]; done)), H', ⟨by have := HK1.out; omega⟩, ⟨sR HO111.out⟩, ⟨sR HO_107001.out⟩, ⟨sB BK101.out⟩, ⟨sB BK102.out⟩, ⟨sB BK106.out⟩, ⟨sH⟩⟩
      ·rw [if_neg c28] at H
       exact absurd H (by simp)
    ·replace c17 := Bool.eq_false_iff.mpr c17
     subst c17
     replace H := sX H
     have H' := sA H
     clear H
     have := NB101_102.out
     have := NB102_101.out
     have := NB101_106.out
     have := NB106_101.out
     obtain ⟨_, _, _, _, _, _⟩ := sD3 BK101
     have := NB106_102.out
     have := NB102_106.out
     obtain ⟨_, _, _, _, _, _⟩ := sD3 BK106
     go_wp2_with (first | ((with_reducible refine gate_callee (f := 61) rfl ?_); refine goesL_ (some 32) rfl rfl Try.func61 (by kernel_rfl) rfl #[.slice Ao11 t103.length co11, .int .i64 x11_1] rfl sG ?_; (with_reducible refine (spec_l2Has.calls k1 _ _ t103 x11_1 false _ ?side1 ?side2 A16.out).mono ?_); (case side1 => exact sK (Kd.R_reads' HO_107001.out).2.2); (case side2 => exact (Kd.R_reads' HO_107001.out).2.1); rintro e w43 ⟨rfl, hb⟩; refine ⟨_, rfl, ?_⟩; replace HO_9 := sS HO_9 hb; replace HO_107001 := sS HO_107001 hb; replace BK101 := sJ BK101 hb; replace BK102 := sJ BK102 hb; replace BK106 := sJ BK106 hb; replace HB := sA (below_step sH hb); (try clear hb); (try clear hb2); (try clear hk); (try clear hi)))
     go_roundg k1
     case measure => have := HK1.out; omega
     case rel => exact ⟨(x9_1), (wrap64 (x11_1 + 1)), (by first | rfl | (simp; done) | (simp [*]; done)), H', ⟨by have := HK1.out; omega⟩, ⟨sR HO_9.out⟩, ⟨sR HO_107001.out⟩, ⟨sB BK101.out⟩, ⟨sB BK102.out⟩, ⟨sB BK106.out⟩, ⟨sH⟩⟩
   ·rw [if_neg c15] at H
    have c15b0 : decide (x11_1 < a0_0) = false := decide_eq_false c15
    clear c15
    have HC44 := sA H
    clear H
    have := NB101_102.out
    have := NB102_101.out
    have := NB101_106.out
    have := NB106_101.out
    obtain ⟨_, _, _, _, _, _⟩ := sD3 BK101
    have := NB106_102.out
    have := NB102_106.out
    obtain ⟨_, _, _, _, _, _⟩ := sD3 BK106
    go_upto_if 48 with (fail)
    go_cut [12] (fun v12 wc => ∃ (kq : Nat) (x12_43 : Int), v12 = .int .i64 x12_43 ∧ Aside0 (spec_l11Hear.j1 kq x9_1 ([] : List Int) x12_43 a0_0 l0_1 l0_2 a0_0 t103 = some (r1, r2, r3, r4, r5, r6)) ∧ Aside0 (kq ≤ k1) ∧ Aside0 (Kd.R (Kd.int .i64) 3 wc w.heap.size (fun k_ => some k_ ≠ ((.slice none 0 0) : Value).ownBlock) u9 x9_1) ∧ Aside0 (Kd.R (Kd.int .i64) 3 wc w.heap.size (fun k_ => some k_ ≠ (u9 : Value).ownBlock) (.slice none 0 0) ([] : List Int)) ∧ Aside0 (Kd.R k59 59 wc w.heap.size (fun _ => True) (.slice Ao11 t103.length co11) t103) ∧ Aside0 (wc.heap[gb101]? = some (.cells #[.int .i64 a0_0, (.slice A0_1 l0_1.length c0_1), (.slice A0_2 l0_2.length c0_2)] 31 (0, 0))) ∧ Aside0 (wc.heap[gb102]? = some (.cells #[.int .i64 0, (.slice none 0 0), (.slice none 0 0)] 31 (0, 0))) ∧ Aside0 (wc.heap[gb106]? = some (.cells #[.int .i64 a0_0, (.slice Ao11 t103.length co11), (.slice none 0 0)] 31 (0, 0))) ∧ Aside0 (Below w.heap.size w wc))
    case first =>
     have H := HC44.out
     clear HC44
     by_cases c50 : (t103.length : Int) > 0
     ·rw [if_pos c50] at H
      have c50b0 : decide (0 < (t103.length : Int)) = true := decide_eq_true c50
      have c50b1 : decide (0 < t103.length) = true := decide_eq_true (by omega)
      clear c50
      (first | rw [c50b0] | rw [c50b1] | (simp only [i64_w, i32_w]; rw [c50b0]) | skip)
      obtain ⟨ji51, hji51⟩ : ∃ j_ : Int, (wrap64 ((t103.length : Int) - 1)) = j_ := ⟨_, rfl⟩
      replace H : (if 0 ≤ (ji51) then (if (ji51) < (t103.length : Int) then (spec_l11Hear.j1 k1 x9_1 ([] : List Int) (wrap64 (((rd_T59 t103 (ji51)).f1) - 1)) a0_0 l0_1 l0_2 a0_0 t103) else (none)) else (none)) = some (r1, r2, r3, r4, r5, r6) := by first | (rw [hji51] at H; exact H) | (simp only [hji51] at H ⊢; exact H)
      have hji51w : (IntKind.i64.wrap ((t103.length : Int) - 1)) = ji51 := (i64_w _).trans hji51
      by_cases c52 : 0 ≤ (ji51)
      ·rw [if_pos c52] at H
       have c52b0 : decide (0 ≤ (ji51)) = true := decide_eq_true c52
       clear c52
       by_cases c53 : (ji51) < (t103.length : Int)
       ·rw [if_pos c53] at H
        have c53b0 : decide ((ji51) < (t103.length : Int)) = true := decide_eq_true c53
        clear c53
        have H' := sA H
        clear H
        have := NB106_101.out
        have := NB101_106.out
        have := NB106_102.out
        have := NB102_106.out
        obtain ⟨_, _, _, _, _, _⟩ := sD3 BK106
        have p112 : 0 ≤ ((ji51) : Int) := of_decide_eq_true (by first | (with_reducible assumption) | assumption)
        have q112 : (ji51) < (t103.length : Int) := of_decide_eq_true (by first | (with_reducible assumption) | assumption)
        obtain ⟨ad112, e112, hx112_0, hx112_1⟩ := at_T59 (Kd.R_reads' HO_107001.out).2.2 (ji51) p112 q112
        cases e112
        replace p112 := eq_true p112
        replace q112 := eq_true q112
        go_wp2
        go_meet
        case rel => exact ⟨_, (wrap64 (((rd_T59 t103 (ji51)).f1) - 1)), (by first | rfl | (simp; done) | (simp only [← hji51] <;> (first | rfl | simp)) | (simp [*]; done)), H', ⟨by have := HK1.out; first | omega | exact Nat.le_refl _⟩, ⟨sR (Kd.R_mono HO_9.out (fun _ hk => (by simp [Value.ownBlock])))⟩, ⟨by first | exact Kd.R_nil _ _ _ _ _ | exact Kd.N_nil _ _ _ _ _ | exact Kd.V_nil _ _ _ _ _ | exact Kd.Q_nil _ _ _ _ _ | exact Kd.S_nil _ _ _ _ _⟩, ⟨sR HO_107001.out⟩, ⟨sB BK101.out⟩, ⟨sB BK102.out⟩, ⟨sB BK106.out⟩, ⟨sH⟩⟩
       ·rw [if_neg c53] at H
        exact absurd H (by simp)
      ·rw [if_neg c52] at H
       exact absurd H (by simp)
     ·rw [if_neg c50] at H
      have c50b0 : decide (0 < (t103.length : Int)) = false := decide_eq_false c50
      have c50b1 : decide (0 < t103.length) = false := decide_eq_false (by omega)
      clear c50
      (first | rw [c50b0] | rw [c50b1] | (simp only [i64_w, i32_w]; rw [c50b0]) | skip)
      have H' := sA H
      clear H
      go_wp2
      go_meet
      case rel => exact ⟨_, ((-1)), (by first | rfl | (simp; done) | (simp [*]; done)), H', ⟨by have := HK1.out; first | omega | exact Nat.le_refl _⟩, ⟨sR (Kd.R_mono HO_9.out (fun _ hk => (by simp [Value.ownBlock])))⟩, ⟨by first | exact Kd.R_nil _ _ _ _ _ | exact Kd.N_nil _ _ _ _ _ | exact Kd.V_nil _ _ _ _ _ | exact Kd.Q_nil _ _ _ _ _ | exact Kd.S_nil _ _ _ _ _⟩, ⟨sR HO_107001.out⟩, ⟨sB BK101.out⟩, ⟨sB BK102.out⟩, ⟨sB BK106.out⟩, ⟨sH⟩⟩
    case rest =>
     clear HC44
     (try clear c1); (try clear p1); (try clear q1); (try clear hx1); (try clear c2); (try clear p2); (try clear c3); (try clear c4); (try clear c5); (try clear c6); (try clear p6); (try clear p11); (try clear q11); (try clear hx11); (try clear c15); (try clear c15b0); (try clear c17); (try clear c19); (try clear c20); (try clear c21); (try clear c23); (try clear c28); (try clear c29); (try clear c30); (try clear c32); (try clear c38); (try clear c39); (try clear c41); (try clear c45); (try clear c46); (try clear c48); (try clear c50); (try clear c50b0); (try clear c50b1); (try clear c52); (try clear c52b0); (try clear c53); (try clear c53b0); (try clear c54); (try clear c55); (try clear hx112_0); (try clear hx112_1); (try clear p112); (try clear p2); (try clear q112)
     obtain ⟨kq, x12_43, rfl, HA, HJ43, HO_9, HO_10, HO_107001, BK101, BK102, BK106, HB⟩ := hcut
     cases kq with
     | zero => exact absurd HA.out (by simp [spec_l11Hear.j1])
     | succ kj43 =>
      have H := HA.out
      clear HA
      simp only [spec_l11Hear.j1] at H
      have H' := sA H
      clear H
      go_wp2
      go_loopg [10, 14] kj43 (fun kq v10 v14 w' => ∃ (x10_3 : List Int) (x14_3 : Int) (x107002_3 : List Int) (u107002 : Value), v14 = .int .i64 x14_3 ∧ Aside0 (spec_l11Hear.l1 kq x9_1 x10_3 x12_43 x14_3 a0_0 l0_1 l0_2 a0_0 t103 x107002_3 = some (r1, r2, r3, r4, r5, r6)) ∧ Aside0 (kq ≤ kj43) ∧ Aside0 (Kd.R (Kd.int .i64) 3 w' w.heap.size (fun k_ => some k_ ≠ (v10 : Value).ownBlock ∧ some k_ ≠ (u107002 : Value).ownBlock) u9 x9_1) ∧ Aside0 (Kd.R (Kd.int .i64) 3 w' w.heap.size (fun k_ => some k_ ≠ (u9 : Value).ownBlock ∧ some k_ ≠ (u107002 : Value).ownBlock) v10 x10_3) ∧ Aside0 (Kd.R k59 59 w' w.heap.size (fun _ => True) (.slice Ao11 t103.length co11) t103) ∧ Aside0 (Kd.R (Kd.int .i64) 3 w' w.heap.size (fun k_ => some k_ ≠ (u9 : Value).ownBlock ∧ some k_ ≠ (v10 : Value).ownBlock) u107002 x107002_3) ∧ Aside0 (w'.heap[gb101]? = some (.cells #[.int .i64 a0_0, (.slice A0_1 l0_1.length c0_1), (.slice A0_2 l0_2.length c0_2)] 31 (0, 0))) ∧ Aside0 (w'.heap[gb102]? = some (.cells #[.int .i64 0, (.slice none 0 0), (.slice none 0 0)] 31 (0, 0))) ∧ Aside0 (w'.heap[gb106]? = some (.cells #[.int .i64 a0_0, (.slice Ao11 t103.length co11), u107002] 31 (0, 0))) ∧ Aside0 (Below w.heap.size w w'))
      case atStart => exact ⟨(([] : List Int)), (0), (([] : List Int)), (.slice none 0 0), (by first | rfl | (simp; done) | (simp [*]; done)), H', ⟨Nat.le_refl _⟩, ⟨sR (Kd.R_mono HO_9.out (fun _ hk => ⟨hk, (by simp [Value.ownBlock])⟩))⟩, ⟨sR (Kd.R_mono HO_10.out (fun _ hk => ⟨hk, (by simp [Value.ownBlock])⟩))⟩, ⟨sR HO_107001.out⟩, ⟨by first | exact Kd.R_nil _ _ _ _ _ | exact Kd.N_nil _ _ _ _ _ | exact Kd.V_nil _ _ _ _ _ | exact Kd.Q_nil _ _ _ _ _ | exact Kd.S_nil _ _ _ _ _⟩, ⟨sB BK101.out⟩, ⟨sB BK102.out⟩, ⟨sB BK106.out⟩, ⟨sH⟩⟩
      case round =>
       clear H'
       (try clear c1); (try clear p1); (try clear q1); (try clear hx1); (try clear c2); (try clear p2); (try clear c3); (try clear c4); (try clear c5); (try clear c6); (try clear p6); (try clear p11); (try clear q11); (try clear hx11); (try clear c15); (try clear c15b0); (try clear c17); (try clear c19); (try clear c20); (try clear c21); (try clear c23); (try clear c28); (try clear c29); (try clear c30); (try clear c32); (try clear c38); (try clear c39); (try clear c41); (try clear c45); (try clear c46); (try clear c48); (try clear c50); (try clear c50b0); (try clear c50b1); (try clear c52); (try clear c52b0); (try clear c53); (try clear c53b0); (try clear c54); (try clear c55); (try clear hx112_0); (try clear hx112_1); (try clear p1); (try clear p11); (try clear p112); (try clear p2); (try clear p6); (try clear q1); (try clear q11); (try clear q112)
       obtain ⟨x10_3, x14_3, x107002_3, u107002, rfl, HA, HK3, HO_9, HO_10, HO_107001, HO_107002, BK101, BK102, BK106, HB⟩ := hrel
       cases gk with
       | zero => exact absurd HA.out (by simp [spec_l11Hear.l1])
       | succ k3 =>
        have H := HA.out
        clear HA
        simp only [spec_l11Hear.l1] at H
        by_cases c57 : x14_3 < a0_0
        ·rw [if_pos c57] at H
         have c57b0 : decide (x14_3 < a0_0) = true := decide_eq_true c57
         clear c57
         obtain ⟨t113, A58, H⟩ := sN H
         by_cases c59 : t113 = true
         ·subst c59
          replace H := sY H
          have H' := sA H
          clear H
          have := NB101_102.out
          have := NB102_101.out
          have := NB101_106.out
          have := NB106_101.out
          obtain ⟨_, _, _, _, _, _⟩ := sD3 BK101
          have := NB106_102.out
          have := NB102_106.out
          obtain ⟨_, _, _, _, _, _⟩ := sD3 BK106
          go_wp2_with (first | ((with_reducible refine gate_callee (f := 61) rfl ?_); refine goesL_ (some 66) rfl rfl Try.func61 (by kernel_rfl) rfl #[.slice Ao11 t103.length co11, .int .i64 x14_3] rfl sG ?_; (with_reducible refine (spec_l2Has.calls k3 _ _ t103 x14_3 true _ ?side1 ?side2 A58.out).mono ?_); (case side1 => exact sK (Kd.R_reads' HO_107001.out).2.2); (case side2 => exact (Kd.R_reads' HO_107001.out).2.1); rintro e w65 ⟨rfl, hb⟩; refine ⟨_, rfl, ?_⟩; replace HO_9 := sS HO_9 hb; replace HO_10 := sS HO_10 hb; replace HO_107001 := sS HO_107001 hb; replace HO_107002 := sS HO_107002 hb; replace BK101 := sJ BK101 hb; replace BK102 := sJ BK102 hb; replace BK106 := sJ BK106 hb; replace HB := sA (below_step sH hb); (try clear hb); (try clear hb2); (try clear hk); (try clear hi)))
          go_roundg k3
          case measure => have := HK1.out; have := HJ43.out; have := HK3.out; omega
          case rel => exact ⟨(x10_3), (wrap64 (x14_3 + 1)), (x107002_3), (u107002), (by first | rfl | (simp; done) | (simp [*]; done)), H', ⟨by have := HK1.out; have := HJ43.out; have := HK3.out; omega⟩, ⟨sR HO_9.out⟩, ⟨sR HO_10.out⟩, ⟨sR HO_107001.out⟩, ⟨sR HO_107002.out⟩, ⟨sB BK101.out⟩, ⟨sB BK102.out⟩, ⟨sB BK106.out⟩, ⟨sH⟩⟩
         ·replace c59 := Bool.eq_false_iff.mpr c59
          subst c59
          replace H := sX H
          obtain ⟨t114, A66, H⟩ := sN H
          have HC67 := sA H
          clear H
          have := NB101_102.out
          have := NB102_101.out
          have := NB101_106.out
          have := NB106_101.out
          obtain ⟨_, _, _, _, _, _⟩ := sD3 BK101
          have := NB106_102.out
          have := NB102_106.out
          obtain ⟨_, _, _, _, _, _⟩ := sD3 BK106
          go_upto_region 17 with (first | ((with_reducible refine gate_callee (f := 61) rfl ?_); refine goesL_ (some 66) rfl rfl Try.func61 (by kernel_rfl) rfl #[.slice Ao11 t103.length co11, .int .i64 x14_3] rfl sG ?_; (with_reducible refine (spec_l2Has.calls k3 _ _ t103 x14_3 false _ ?side1 ?side2 A58.out).mono ?_); (case side1 => exact sK (Kd.R_reads' HO_107001.out).2.2); (case side2 => exact (Kd.R_reads' HO_107001.out).2.1); rintro e w73 ⟨rfl, hb⟩; refine ⟨_, rfl, ?_⟩; replace HO_9 := sS HO_9 hb; replace HO_10 := sS HO_10 hb; replace HO_107001 := sS HO_107001 hb; replace HO_107002 := sS HO_107002 hb; replace BK101 := sJ BK101 hb; replace BK102 := sJ BK102 hb; replace BK106 := sJ BK106 hb; replace HB := sA (below_step sH hb); (try clear hb); (try clear hb2); (try clear hk); (try clear hi); obtain ⟨_, _, _, _, _, _⟩ := sD3 BK101) | ((with_reducible refine gate_callee (f := 62) rfl ?_); refine goesL_ (some 70) rfl rfl Try.func62 (by kernel_rfl) rfl #[.slice A0_2 l0_2.length c0_2, .int .i64 x14_3] rfl sG ?_; (with_reducible refine (spec_l1Has.calls k3 _ _ l0_2 x14_3 t114 _ ?side1 ?side2 A66.out).mono ?_); (case side1 => exact sK (Kd.C_below HR0_2.out HB.out)); (case side2 => exact HC0_2.out); rintro e w' ⟨rfl, ⟨nd, rfl⟩⟩; refine ⟨_, rfl, ?_⟩))
          (try simp only [Act.put, sI, sZ, sV])
          go_cut [77] (fun v77 wc => ∃ (kq : Nat) (x77_66 : Bool), v77 = .bool x77_66 ∧ Aside0 (spec_l11Hear.j3 kq x9_1 x10_3 x12_43 x14_3 t114 x77_66 a0_0 l0_1 l0_2 a0_0 t103 x107002_3 = some (r1, r2, r3, r4, r5, r6)) ∧ Aside0 (kq ≤ k3) ∧ Aside0 (Kd.R (Kd.int .i64) 3 wc w.heap.size (fun k_ => some k_ ≠ (u10 : Value).ownBlock ∧ some k_ ≠ (u107002 : Value).ownBlock) u9 x9_1) ∧ Aside0 (Kd.R (Kd.int .i64) 3 wc w.heap.size (fun k_ => some k_ ≠ (u9 : Value).ownBlock ∧ some k_ ≠ (u107002 : Value).ownBlock) u10 x10_3) ∧ Aside0 (Kd.R k59 59 wc w.heap.size (fun _ => True) (.slice Ao11 t103.length co11) t103) ∧ Aside0 (Kd.R (Kd.int .i64) 3 wc w.heap.size (fun k_ => some k_ ≠ (u9 : Value).ownBlock ∧ some k_ ≠ (u10 : Value).ownBlock) u107002 x107002_3) ∧ Aside0 (wc.heap[gb101]? = some (.cells #[.int .i64 a0_0, (.slice A0_1 l0_1.length c0_1), (.slice A0_2 l0_2.length c0_2)] 31 (0, 0))) ∧ Aside0 (wc.heap[gb102]? = some (.cells #[.int .i64 0, (.slice none 0 0), (.slice none 0 0)] 31 (0, 0))) ∧ Aside0 (wc.heap[gb106]? = some (.cells #[.int .i64 a0_0, (.slice Ao11 t103.length co11), u107002] 31 (0, 0))) ∧ Aside0 (Below w.heap.size w wc))
          case first =>
           have H := HC67.out
           clear HC67
           by_cases c75 : t114 = true
           ·subst c75
            replace H := sY H
            have H' := sA H
            clear H
            go_wp2
            go_meet
            case rel => exact ⟨_, (true), (by first | rfl | (simp; done) | (simp [*]; done)), H', ⟨by have := HK1.out; have := HJ43.out; have := HK3.out; first | omega | exact Nat.le_refl _⟩, ⟨sR HO_9.out⟩, ⟨sR HO_10.out⟩, ⟨sR HO_107001.out⟩, ⟨sR HO_107002.out⟩, ⟨sB BK101.out⟩, ⟨sB BK102.out⟩, ⟨sB BK106.out⟩, ⟨sH⟩⟩
           ·replace c75 := Bool.eq_false_iff.mpr c75
            subst c75
            replace H := sX H
            have H' := sA H
            clear H
            go_wp2
            go_meet
            case rel => exact ⟨_, (decide (x12_43 ≥ (wrap64 (x14_3 + 3)))), (by first | rfl | (simp; done) | (simp [*]; done)), H', ⟨by have := HK1.out; have := HJ43.out; have := HK3.out; first | omega | exact Nat.le_refl _⟩, ⟨sR HO_9.out⟩, ⟨sR HO_10.out⟩, ⟨sR HO_107001.out⟩, ⟨sR HO_107002.out⟩, ⟨sB BK101.out⟩, ⟨sB BK102.out⟩, ⟨sB BK106.out⟩, ⟨sH⟩⟩
          case rest =>
           clear HC67
           (try clear c1); (try clear p1); (try clear q1); (try clear hx1); (try clear c2); (try clear p2); (try clear c3); (try clear c4); (try clear c5); (try clear c6); (try clear p6); (try clear c7); (try clear p11); (try clear q11); (try clear hx11); (try clear c15); (try clear c15b0); (try clear c17); (try clear c19); (try clear c20); (try clear c21); (try clear c23); (try clear c28); (try clear c29); (try clear c30); (try clear c32); (try clear c38); (try clear c39); (try clear c41); (try clear c45); (try clear c46); (try clear c48); (try clear c50); (try clear c50b0); (try clear c50b1); (try clear c52); (try clear c52b0); (try clear c53); (try clear c53b0); (try clear c54); (try clear c55); (try clear c57); (try clear c57b0); (try clear c59); (try clear c60); (try clear c61); (try clear c62); (try clear c63); (try clear p64); (try clear c68); (try clear c69); (try clear c71); (try clear c75); (try clear hx112_0); (try clear hx112_1); (try clear p1); (try clear p11); (try clear p112); (try clear p2); (try clear p6); (try clear q1); (try clear q11); (try clear q112)
           obtain ⟨kq, x77_66, rfl, HA, HJ66, HO_9, HO_10, HO_107001, HO_107002, BK101, BK102, BK106, HB⟩ := hcut
           cases kq with
           | zero => exact absurd HA.out (by simp [spec_l11Hear.j3])
           | succ kj66 =>
            have H := HA.out
            clear HA
            simp only [spec_l11Hear.j3] at H
            by_cases c76 : x77_66 = true
            ·subst c76
             replace H := sY H
             by_cases c77 : x107002_3.length < 17592186044416
             ·rw [if_pos c77] at H
              have LMc77 := sA c77
              clear c77
              obtain ⟨y115, hy115⟩ : ∃ y_ : List Int, y_ = (x107002_3 ++ [x14_3]) := ⟨_, rfl⟩
              replace H : (if t114 = true then (spec_l11Hear.l1 kj66 x9_1 x10_3 x12_43 (wrap64 (x14_3 + 1)) a0_0 l0_1 l0_2 a0_0 t103 y115) else (if x12_43 ≥ (wrap64 (x14_3 + 3)) then (if x10_3.length < 17592186044416 then (spec_l11Hear.l1 kj66 x9_1 (x10_3 ++ [x14_3]) x12_43 (wrap64 (x14_3 + 1)) a0_0 l0_1 l0_2 a0_0 t103 y115) else (none)) else (spec_l11Hear.l1 kj66 x9_1 x10_3 x12_43 (wrap64 (x14_3 + 1)) a0_0 l0_1 l0_2 a0_0 t103 y115))) = some (r1, r2, r3, r4, r5, r6) := by first | (rw [hy115]; with_reducible exact H) | (have H2_ := (Option.bind_some _ _).symm.trans H; rw [hy115]; with_reducible exact H2_) | (have H2_ := (Option.bind_some _ _).symm.trans H; with_reducible exact H2_) | with_reducible exact H | (rw [hy115]; exact H) | exact H
              have Ny115 := sA hy115
              clear hy115
              by_cases c78 : t114 = true
              ·subst c78
               replace H := sY H
               have H' := sA H
               clear H
               have := NB106_101.out
               have := NB101_106.out
               have := NB106_102.out
               have := NB102_106.out
               obtain ⟨_, _, _, _, _, _⟩ := sD3 BK106
               go_wp2_with (first | ((with_reducible refine gate_builtin (b := .append) (xs := #[.tmp 79, .tmp 81]) rfl ?_); at_builtin; refine Kd.R_append (Kd.int .i64) (w0 := w) w.heap.size rfl (.tmp 79) (.tmp 81) 23 3 (.int .i64 0) 8 rfl Try.underlying23 info3 rfl (by decide) (by omega) u107002 x107002_3 x14_3 [.int .i64 x14_3] (fun k_ => some k_ ≠ (u9 : Value).ownBlock ∧ some k_ ≠ (u10 : Value).ownBlock) (fun _ => False) rfl rfl ?aP (fun _ hk => hk.elim) ?aF ?aO ?aB ?aS ?aL ?_; (case aP => exact rfl); (case aB => exact sH); (case aF => exact (fun k_ hk => ⟨Kd.fresh' (Kd.R_lt (sR HO_9.out)) k_ hk, Kd.fresh' (Kd.R_lt (sR HO_10.out)) k_ hk⟩)); (case aO => exact (sR HO_107002.out)); (case aS => exact (below_size sH)); (case aL => have := LMc77.out; omega); intro v116 w82 ho hb hg hat; rw [← Ny115.out] at ho; replace HO_9 := sA (Kd.R_after (ok := (fun k_ => some k_ ≠ (u10 : Value).ownBlock)) (sR HO_9.out) hg hat); replace HO_10 := sA (Kd.R_after (ok := (fun k_ => some k_ ≠ (u9 : Value).ownBlock)) (sR HO_10.out) hg hat); replace HO_107001 := sA (Kd.R_over' (sR HO_107001.out) (Kd.R_typed (sR HO_107002.out)) (by decide) hg); replace BK101 := sA (blk_grown (g := gb101) (o := .cells #[.int .i64 a0_0, .slice A0_1 l0_1.length c0_1, .slice A0_2 l0_2.length c0_2] 31 (0, 0)) (sB BK101.out) hg (Kd.R_ne HO_107002.out BK101.out (by decide))); replace BK102 := sA (blk_grown (g := gb102) (o := .cells #[.int .i64 0, .slice none 0 0, .slice none 0 0] 31 (0, 0)) (sB BK102.out) hg (Kd.R_ne HO_107002.out BK102.out (by decide))); replace BK106 := sA (blk_grown (g := gb106) (o := .cells #[.int .i64 a0_0, .slice Ao11 t103.length co11, u107002] 31 (0, 0)) (sB BK106.out) hg (Kd.R_ne HO_107002.out BK106.out (by decide))); replace HB := sA (hb); have HO117 := sA (ho); clear HO_107002; clear ho hb hg hat; obtain ⟨Ao83, co83, eo83⟩ := Kd.R_slice HO117.out; subst eo83; obtain ⟨_, _, _, _, _, _⟩ := sD3 BK106))
               go_roundg kj66
               case measure => have := HK1.out; have := HJ43.out; have := HK3.out; have := HJ66.out; omega
               case rel => exact ⟨(x10_3), (wrap64 (x14_3 + 1)), (y115), (.slice Ao83 y115.length co83), (by first | rfl | (simp; done) | (simp [*]; done)), H', ⟨by have := HK1.out; have := HJ43.out; have := HK3.out; have := HJ66.out; omega⟩, ⟨sR (Kd.R_mono (Kd.R_far (p := ⟨gb106, 2, none⟩) (Kd.R_types HO_9.out BK106.out (by decide)) (fun _ hk => hk.2) (.slice Ao83 y115.length co83)) (fun _ hk => ⟨hk.1.1, hk.1.2⟩))⟩, ⟨sR (Kd.R_mono (Kd.R_far (p := ⟨gb106, 2, none⟩) (Kd.R_types HO_10.out BK106.out (by decide)) (fun _ hk => hk.2) (.slice Ao83 y115.length co83)) (fun _ hk => ⟨hk.1.1, hk.1.2⟩))⟩, ⟨sR (Kd.R_mono (Kd.R_far (p := ⟨gb106, 2, none⟩) (Kd.R_types HO_107001.out BK106.out (by decide)) (fun _ hk => hk.2) (.slice Ao83 y115.length co83)) (fun _ hk => trivial))⟩, ⟨sR (Kd.R_mono (Kd.R_far (p := ⟨gb106, 2, none⟩) (Kd.R_types HO117.out BK106.out (by decide)) (fun _ hk => hk.2) (.slice Ao83 y115.length co83)) (fun _ hk => ⟨hk.1.1, hk.1.2⟩))⟩, ⟨by (with_reducible repeat first | apply blk_drewN | apply blk_drew | apply blk_alloc); refine blk_far ?_ NB101_106.out _; (with_reducible repeat first | apply blk_drewN | apply blk_drew | apply blk_alloc); exact BK101.out⟩, ⟨by (with_reducible repeat first | apply blk_drewN | apply blk_drew | apply blk_alloc); refine blk_far ?_ NB102_106.out _; (with_reducible repeat first | apply blk_drewN | apply blk_drew | apply blk_alloc); exact BK102.out⟩, ⟨by (with_reducible repeat first | apply blk_drewN | apply blk_drew | apply blk_alloc); refine blk_put (cs := #[.int .i64 a0_0, .slice Ao11 t103.length co11, u107002]) ?_ 2 _ rfl; (with_reducible repeat first | apply blk_drewN | apply blk_drew | apply blk_alloc); exact BK106.out⟩, ⟨sH⟩⟩
              ·replace c78 := Bool.eq_false_iff.mpr c78
               subst c78
               replace H := sX H
               by_cases c85 : x12_43 ≥ (wrap64 (x14_3 + 3))
               ·rw [if_pos c85] at H
                have c85b0 : decide ((wrap64 (x14_3 + 3)) ≤ x12_43) = true := decide_eq_true c85
                clear c85
                by_cases c86 : x10_3.length < 17592186044416
                ·rw [if_pos c86] at H
                 have LMc86 := sA c86
                 clear c86
                 obtain ⟨y118, hy118⟩ : ∃ y_ : List Int, y_ = (x10_3 ++ [x14_3]) := ⟨_, rfl⟩
                 replace H : (spec_l11Hear.l1 kj66 x9_1 y118 x12_43 (wrap64 (x14_3 + 1)) a0_0 l0_1 l0_2 a0_0 t103 y115) = some (r1, r2, r3, r4, r5, r6) := by first | (rw [hy118]; with_reducible exact H) | (have H2_ := (Option.bind_some _ _).symm.trans H; rw [hy118]; with_reducible exact H2_) | (have H2_ := (Option.bind_some _ _).symm.trans H; with_reducible exact H2_) | with_reducible exact H | (rw [hy118]; exact H) | exact H
                 have Ny118 := sA hy118
                 clear hy118
                 have H' := sA H
                 clear H
                 have := NB106_101.out
                 have := NB101_106.out
                 have := NB106_102.out
                 have := NB102_106.out
                 obtain ⟨_, _, _, _, _, _⟩ := sD3 BK106
                 go_wp2_with (first | ((with_reducible refine gate_builtin (b := .append) (xs := #[.tmp 79, .tmp 81]) rfl ?_); at_builtin; refine Kd.R_append (Kd.int .i64) (w0 := w) w.heap.size rfl (.tmp 79) (.tmp 81) 23 3 (.int .i64 0) 8 rfl Try.underlying23 info3 rfl (by decide) (by omega) u107002 x107002_3 x14_3 [.int .i64 x14_3] (fun k_ => some k_ ≠ (u9 : Value).ownBlock ∧ some k_ ≠ (u10 : Value).ownBlock) (fun _ => False) rfl rfl ?aP (fun _ hk => hk.elim) ?aF ?aO ?aB ?aS ?aL ?_; (case aP => exact rfl); (case aB => exact sH); (case aF => exact (fun k_ hk => ⟨Kd.fresh' (Kd.R_lt (sR HO_9.out)) k_ hk, Kd.fresh' (Kd.R_lt (sR HO_10.out)) k_ hk⟩)); (case aO => exact (sR HO_107002.out)); (case aS => exact (below_size sH)); (case aL => have := LMc77.out; omega); intro v116 w90 ho hb hg hat; rw [← Ny115.out] at ho; replace HO_9 := sA (Kd.R_after (ok := (fun k_ => some k_ ≠ (u10 : Value).ownBlock)) (sR HO_9.out) hg hat); replace HO_10 := sA (Kd.R_after (ok := (fun k_ => some k_ ≠ (u9 : Value).ownBlock)) (sR HO_10.out) hg hat); replace HO_107001 := sA (Kd.R_over' (sR HO_107001.out) (Kd.R_typed (sR HO_107002.out)) (by decide) hg); replace BK101 := sA (blk_grown (g := gb101) (o := .cells #[.int .i64 a0_0, .slice A0_1 l0_1.length c0_1, .slice A0_2 l0_2.length c0_2] 31 (0, 0)) (sB BK101.out) hg (Kd.R_ne HO_107002.out BK101.out (by decide))); replace BK102 := sA (blk_grown (g := gb102) (o := .cells #[.int .i64 0, .slice none 0 0, .slice none 0 0] 31 (0, 0)) (sB BK102.out) hg (Kd.R_ne HO_107002.out BK102.out (by decide))); replace BK106 := sA (blk_grown (g := gb106) (o := .cells #[.int .i64 a0_0, .slice Ao11 t103.length co11, u107002] 31 (0, 0)) (sB BK106.out) hg (Kd.R_ne HO_107002.out BK106.out (by decide))); replace HB := sA (hb); have HO117 := sA (ho); clear HO_107002; clear ho hb hg hat; obtain ⟨Ao91, co91, eo91⟩ := Kd.R_slice HO117.out; subst eo91; obtain ⟨_, _, _, _, _, _⟩ := sD3 BK106) | ((with_reducible refine gate_builtin (b := .append) (xs := #[.tmp 92, .tmp 94]) rfl ?_); at_builtin; refine Kd.R_append (Kd.int .i64) (w0 := w) w.heap.size rfl (.tmp 92) (.tmp 94) 23 3 (.int .i64 0) 8 rfl Try.underlying23 info3 rfl (by decide) (by omega) u10 x10_3 x14_3 [.int .i64 x14_3] (fun k_ => some k_ ≠ (u9 : Value).ownBlock ∧ some k_ ≠ (.slice Ao91 y115.length co91 : Value).ownBlock) (fun _ => False) rfl (by first | (go_simp; done) | (go_simp; rfl)) ?aP (fun _ hk => hk.elim) ?aF ?aO ?aB ?aS ?aL ?_; (case aP => exact rfl); (case aB => exact sH); (case aF => exact (fun k_ hk => ⟨Kd.fresh' (Kd.R_lt (sR (Kd.R_mono (Kd.R_far (p := ⟨gb106, 2, none⟩) (Kd.R_types HO_9.out BK106.out (by decide)) (fun _ hk => hk.2) (.slice Ao91 y115.length co91)) (fun _ h_ => h_.1)))) k_ hk, Kd.fresh' (Kd.R_lt (sR (Kd.R_mono (Kd.R_far (p := ⟨gb106, 2, none⟩) (Kd.R_types HO117.out BK106.out (by decide)) (fun _ hk => hk.2) (.slice Ao91 y115.length co91)) (fun _ h_ => h_.1)))) k_ hk⟩)); (case aO => exact (sR (Kd.R_mono (Kd.R_far (p := ⟨gb106, 2, none⟩) (Kd.R_types HO_10.out BK106.out (by decide)) (fun _ hk => hk.2) (.slice Ao91 y115.length co91)) (fun _ hk => ⟨hk.1.1, hk.1.2⟩)))); (case aS => exact (below_size sH)); (case aL => have := LMc86.out; omega); intro v119 w93 ho hb hg hat; rw [← Ny118.out] at ho; replace HO_9 := sA (Kd.R_after (ok := (fun k_ => some k_ ≠ (.slice Ao91 y115.length co91 : Value).ownBlock)) (sR (Kd.R_mono (Kd.R_far (p := ⟨gb106, 2, none⟩) (Kd.R_types HO_9.out BK106.out (by decide)) (fun _ hk => hk.2) (.slice Ao91 y115.length co91)) (fun _ hk => ⟨hk.1.2, hk.1.1⟩))) hg hat); replace HO_107001 := sA (Kd.R_over' (sR (Kd.R_mono (Kd.R_far (p := ⟨gb106, 2, none⟩) (Kd.R_types HO_107001.out BK106.out (by decide)) (fun _ hk => hk.2) (.slice Ao91 y115.length co91)) (fun _ h_ => h_.1))) (Kd.R_typed (sR (Kd.R_mono (Kd.R_far (p := ⟨gb106, 2, none⟩) (Kd.R_types HO_10.out BK106.out (by decide)) (fun _ hk => hk.2) (.slice Ao91 y115.length co91)) (fun _ h_ => h_.1)))) (by decide) hg); replace BK101 := sA (blk_grown (g := gb101) (o := .cells #[.int .i64 a0_0, .slice A0_1 l0_1.length c0_1, .slice A0_2 l0_2.length c0_2] 31 (0, 0)) (by (with_reducible repeat first | apply blk_drewN | apply blk_drew | apply blk_alloc); refine blk_far ?_ NB101_106.out _; (with_reducible repeat first | apply blk_drewN | apply blk_drew | apply blk_alloc); exact BK101.out) hg (Kd.R_ne HO_10.out BK101.out (by decide))); replace BK102 := sA (blk_grown (g := gb102) (o := .cells #[.int .i64 0, .slice none 0 0, .slice none 0 0] 31 (0, 0)) (by (with_reducible repeat first | apply blk_drewN | apply blk_drew | apply blk_alloc); refine blk_far ?_ NB102_106.out _; (with_reducible repeat first | apply blk_drewN | apply blk_drew | apply blk_alloc); exact BK102.out) hg (Kd.R_ne HO_10.out BK102.out (by decide))); replace HO117 := sA (Kd.R_after (ok := (fun k_ => some k_ ≠ (u9 : Value).ownBlock)) (sR (Kd.R_mono (Kd.R_far (p := ⟨gb106, 2, none⟩) (Kd.R_types HO117.out BK106.out (by decide)) (fun _ hk => hk.2) (.slice Ao91 y115.length co91)) (fun _ hk => ⟨hk.1.1, hk.1.2⟩))) hg hat); replace BK106 := sA (blk_grown (g := gb106) (o := .cells #[.int .i64 a0_0, .slice Ao11 t103.length co11, .slice Ao91 y115.length co91] 31 (0, 0)) (by (with_reducible repeat first | apply blk_drewN | apply blk_drew | apply blk_alloc); refine blk_put (cs := #[.int .i64 a0_0, .slice Ao11 t103.length co11, u107002]) ?_ 2 _ rfl; (with_reducible repeat first | apply blk_drewN | apply blk_drew | apply blk_alloc); exact BK106.out) hg (Kd.R_ne HO_10.out BK106.out (by decide))); replace HB := sA (hb); have HO120 := sA (ho); clear HO_10; clear ho hb hg hat))
                 go_roundg kj66
                 case measure => have := HK1.out; have := HJ43.out; have := HK3.out; have := HJ66.out; omega
                 case rel => exact ⟨(y118), (wrap64 (x14_3 + 1)), (y115), (.slice Ao91 y115.length co91), (by first | rfl | (simp; done) | (simp [*]; done)), H', ⟨by have := HK1.out; have := HJ43.out; have := HK3.out; have := HJ66.out; omega⟩, ⟨sR (Kd.R_mono HO_9.out (fun _ hk => ⟨hk.2, hk.1⟩))⟩, ⟨sR HO120.out⟩, ⟨sR HO_107001.out⟩, ⟨sR HO117.out⟩, ⟨sB BK101.out⟩, ⟨sB BK102.out⟩, ⟨sB BK106.out⟩, ⟨sH⟩⟩
                ·rw [if_neg c86] at H
                 exact absurd H (by simp)
               ·rw [if_neg c85] at H
                have c85b0 : decide ((wrap64 (x14_3 + 3)) ≤ x12_43) = false := decide_eq_false c85
                clear c85
                have H' := sA H
                clear H
                have := NB106_101.out
                have := NB101_106.out
                have := NB106_102.out
                have := NB102_106.out
                obtain ⟨_, _, _, _, _, _⟩ := sD3 BK106
                go_wp2_with (first | ((with_reducible refine gate_builtin (b := .append) (xs := #[.tmp 79, .tmp 81]) rfl ?_); at_builtin; refine Kd.R_append (Kd.int .i64) (w0 := w) w.heap.size rfl (.tmp 79) (.tmp 81) 23 3 (.int .i64 0) 8 rfl Try.underlying23 info3 rfl (by decide) (by omega) u107002 x107002_3 x14_3 [.int .i64 x14_3] (fun k_ => some k_ ≠ (u9 : Value).ownBlock ∧ some k_ ≠ (u10 : Value).ownBlock) (fun _ => False) rfl rfl ?aP (fun _ hk => hk.elim) ?aF ?aO ?aB ?aS ?aL ?_; (case aP => exact rfl); (case aB => exact sH); (case aF => exact (fun k_ hk => ⟨Kd.fresh' (Kd.R_lt (sR HO_9.out)) k_ hk, Kd.fresh' (Kd.R_lt (sR HO_10.out)) k_ hk⟩)); (case aO => exact (sR HO_107002.out)); (case aS => exact (below_size sH)); (case aL => have := LMc77.out; omega); intro v116 w97 ho hb hg hat; rw [← Ny115.out] at ho; replace HO_9 := sA (Kd.R_after (ok := (fun k_ => some k_ ≠ (u10 : Value).ownBlock)) (sR HO_9.out) hg hat); replace HO_10 := sA (Kd.R_after (ok := (fun k_ => some k_ ≠ (u9 : Value).ownBlock)) (sR HO_10.out) hg hat); replace HO_107001 := sA (Kd.R_over' (sR HO_107001.out) (Kd.R_typed (sR HO_107002.out)) (by decide) hg); replace BK101 := sA (blk_grown (g := gb101) (o := .cells #[.int .i64 a0_0, .slice A0_1 l0_1.length c0_1, .slice A0_2 l0_2.length c0_2] 31 (0, 0)) (sB BK101.out) hg (Kd.R_ne HO_107002.out BK101.out (by decide))); replace BK102 := sA (blk_grown (g := gb102) (o := .cells #[.int .i64 0, .slice none 0 0, .slice none 0 0] 31 (0, 0)) (sB BK102.out) hg (Kd.R_ne HO_107002.out BK102.out (by decide))); replace BK106 := sA (blk_grown (g := gb106) (o := .cells #[.int .i64 a0_0, .slice Ao11 t103.length co11, u107002] 31 (0, 0)) (sB BK106.out) hg (Kd.R_ne HO_107002.out BK106.out (by decide))); replace HB := sA (hb); have HO117 := sA (ho); clear HO_107002; clear ho hb hg hat; obtain ⟨Ao98, co98, eo98⟩ := Kd.R_slice HO117.out; subst eo98; obtain ⟨_, _, _, _, _, _⟩ := sD3 BK106))
                go_roundg kj66
                case measure => have := HK1.out; have := HJ43.out; have := HK3.out; have := HJ66.out; omega
                case rel => exact ⟨(x10_3), (wrap64 (x14_3 + 1)), (y115), (.slice Ao98 y115.length co98), (by first | rfl | (simp; done) | (simp [*]; done)), H', ⟨by have := HK1.out; have := HJ43.out; have := HK3.out; have := HJ66.out; omega⟩, ⟨sR (Kd.R_mono (Kd.R_far (p := ⟨gb106, 2, none⟩) (Kd.R_types HO_9.out BK106.out (by decide)) (fun _ hk => hk.2) (.slice Ao98 y115.length co98)) (fun _ hk => ⟨hk.1.1, hk.1.2⟩))⟩, ⟨sR (Kd.R_mono (Kd.R_far (p := ⟨gb106, 2, none⟩) (Kd.R_types HO_10.out BK106.out (by decide)) (fun _ hk => hk.2) (.slice Ao98 y115.length co98)) (fun _ hk => ⟨hk.1.1, hk.1.2⟩))⟩, ⟨sR (Kd.R_mono (Kd.R_far (p := ⟨gb106, 2, none⟩) (Kd.R_types HO_107001.out BK106.out (by decide)) (fun _ hk => hk.2) (.slice Ao98 y115.length co98)) (fun _ hk => trivial))⟩, ⟨sR (Kd.R_mono (Kd.R_far (p := ⟨gb106, 2, none⟩) (Kd.R_types HO117.out BK106.out (by decide)) (fun _ hk => hk.2) (.slice Ao98 y115.length co98)) (fun _ hk => ⟨hk.1.1, hk.1.2⟩))⟩, ⟨by (with_reducible repeat first | apply blk_drewN | apply blk_drew | apply blk_alloc); refine blk_far ?_ NB101_106.out _; (with_reducible repeat first | apply blk_drewN | apply blk_drew | apply blk_alloc); exact BK101.out⟩, ⟨by (with_reducible repeat first | apply blk_drewN | apply blk_drew | apply blk_alloc); refine blk_far ?_ NB102_106.out _; (with_reducible repeat first | apply blk_drewN | apply blk_drew | apply blk_alloc); exact BK102.out⟩, ⟨by (with_reducible repeat first | apply blk_drewN | apply blk_drew | apply blk_alloc); refine blk_put (cs := #[.int .i64 a0_0, .slice Ao11 t103.length co11, u107002]) ?_ 2 _ rfl; (with_reducible repeat first | apply blk_drewN | apply blk_drew | apply blk_alloc); exact BK106.out⟩, ⟨sH⟩⟩
             ·rw [if_neg c77] at H
              exact absurd H (by simp)
            ·replace c76 := Bool.eq_false_iff.mpr c76
             subst c76
             replace H := sX H
             by_cases c100 : t114 = true
             ·subst c100
              replace H := sY H
              have H' := sA H
              clear H
              go_wp2
              go_roundg kj66
              case measure => have := HK1.out; have := HJ43.out; have := HK3.out; have := HJ66.out; omega
              case rel => exact ⟨(x10_3), (wrap64 (x14_3 + 1)), (x107002_3), (u107002), (by first | rfl | (simp; done) | (simp [*]; done)), H', ⟨by have := HK1.out; have := HJ43.out; have := HK3.out; have := HJ66.out; omega⟩, ⟨sR HO_9.out⟩, ⟨sR HO_10.out⟩, ⟨sR HO_107001.out⟩, ⟨sR HO_107002.out⟩, ⟨sB BK101.out⟩, ⟨sB BK102.out⟩, ⟨sB BK106.out⟩, ⟨sH⟩⟩
             ·replace c100 := Bool.eq_false_iff.mpr c100
              subst c100
              replace H := sX H
              by_cases c101 : x12_43 ≥ (wrap64 (x14_3 + 3))
              ·rw [if_pos c101] at H
               have c101b0 : decide ((wrap64 (x14_3 + 3)) ≤ x12_43) = true := decide_eq_true c101
               clear c101
               by_cases c102 : x10_3.length < 17592186044416
               ·rw [if_pos c102] at H
                have LMc102 := sA c102
                clear c102
                obtain ⟨y121, hy121⟩ : ∃ y_ : List Int, y_ = (x10_3 ++ [x14_3]) := ⟨_, rfl⟩
                replace H : (spec_l11Hear.l1 kj66 x9_1 y121 x12_43 (wrap64 (x14_3 + 1)) a0_0 l0_1 l0_2 a0_0 t103 x107002_3) = some (r1, r2, r3, r4, r5, r6) := by first | (rw [hy121]; with_reducible exact H) | (have H2_ := (Option.bind_some _ _).symm.trans H; rw [hy121]; with_reducible exact H2_) | (have H2_ := (Option.bind_some _ _).symm.trans H; with_reducible exact H2_) | with_reducible exact H | (rw [hy121]; exact H) | exact H
                have Ny121 := sA hy121
                clear hy121
                have H' := sA H
                clear H
                go_wp2_with (first | ((with_reducible refine gate_builtin (b := .append) (xs := #[.tmp 92, .tmp 94]) rfl ?_); at_builtin; refine Kd.R_append (Kd.int .i64) (w0 := w) w.heap.size rfl (.tmp 92) (.tmp 94) 23 3 (.int .i64 0) 8 rfl Try.underlying23 info3 rfl (by decide) (by omega) u10 x10_3 x14_3 [.int .i64 x14_3] (fun k_ => some k_ ≠ (u9 : Value).ownBlock ∧ some k_ ≠ (u107002 : Value).ownBlock) (fun _ => False) rfl rfl ?aP (fun _ hk => hk.elim) ?aF ?aO ?aB ?aS ?aL ?_; (case aP => exact rfl); (case aB => exact sH); (case aF => exact (fun k_ hk => ⟨Kd.fresh' (Kd.R_lt (sR HO_9.out)) k_ hk, Kd.fresh' (Kd.R_lt (sR HO_107002.out)) k_ hk⟩)); (case aO => exact (sR HO_10.out)); (case aS => exact (below_size sH)); (case aL => have := LMc102.out; omega); intro v122 w103 ho hb hg hat; rw [← Ny121.out] at ho; replace HO_9 := sA (Kd.R_after (ok := (fun k_ => some k_ ≠ (u107002 : Value).ownBlock)) (sR (Kd.R_mono HO_9.out (fun _ hk => ⟨hk.2, hk.1⟩))) hg hat); replace HO_107001 := sA (Kd.R_over' (sR HO_107001.out) (Kd.R_typed (sR HO_10.out)) (by decide) hg); replace HO_107002 := sA (Kd.R_after (ok := (fun k_ => some k_ ≠ (u9 : Value).ownBlock)) (sR HO_107002.out) hg hat); replace BK101 := sA (blk_grown (g := gb101) (o := .cells #[.int .i64 a0_0, .slice A0_1 l0_1.length c0_1, .slice A0_2 l0_2.length c0_2] 31 (0, 0)) (sB BK101.out) hg (Kd.R_ne HO_10.out BK101.out (by decide))); replace BK102 := sA (blk_grown (g := gb102) (o := .cells #[.int .i64 0, .slice none 0 0, .slice none 0 0] 31 (0, 0)) (sB BK102.out) hg (Kd.R_ne HO_10.out BK102.out (by decide))); replace BK106 := sA (blk_grown (g := gb106) (o := .cells #[.int .i64 a0_0, .slice Ao11 t103.length co11, u107002] 31 (0, 0)) (sB BK106.out) hg (Kd.R_ne HO_10.out BK106.out (by decide))); replace HB := sA (hb); have HO123 := sA (ho); clear HO_10; clear ho hb hg hat))
                go_roundg kj66
                case measure => have := HK1.out; have := HJ43.out; have := HK3.out; have := HJ66.out; omega
                case rel => exact ⟨(y121), (wrap64 (x14_3 + 1)), (x107002_3), (u107002), (by first | rfl | (simp; done) | (simp [*]; done)), H', ⟨by have := HK1.out; have := HJ43.out; have := HK3.out; have := HJ66.out; omega⟩, ⟨sR (Kd.R_mono HO_9.out (fun _ hk => ⟨hk.2, hk.1⟩))⟩, ⟨sR HO123.out⟩, ⟨sR HO_107001.out⟩, ⟨sR HO_107002.out⟩, ⟨sB BK101.out⟩, ⟨sB BK102.out⟩, ⟨sB BK106.out⟩, ⟨sH⟩⟩
               ·rw [if_neg c102] at H
                exact absurd H (by simp)
              ·rw [if_neg c101] at H
               have c101b0 : decide ((wrap64 (x14_3 + 3)) ≤ x12_43) = false := decide_eq_false c101
               clear c101
               have H' := sA H
               clear H
               go_wp2
               go_roundg kj66
               case measure => have := HK1.out; have := HJ43.out; have := HK3.out; have := HJ66.out; omega
               case rel => exact ⟨(x10_3), (wrap64 (x14_3 + 1)), (x107002_3), (u107002), (by first | rfl | (simp; done) | (simp [*]; done)), H', ⟨by have := HK1.out; have := HJ43.out; have := HK3.out; have := HJ66.out; omega⟩, ⟨sR HO_9.out⟩, ⟨sR HO_10.out⟩, ⟨sR HO_107001.out⟩, ⟨sR HO_107002.out⟩, ⟨sB BK101.out⟩, ⟨sB BK102.out⟩, ⟨sB BK106.out⟩, ⟨sH⟩⟩
        ·rw [if_neg c57] at H
         have c57b0 : decide (x14_3 < a0_0) = false := decide_eq_false c57
         clear c57
         simp only [Option.some.injEq, Prod.mk.injEq] at H
         obtain ⟨rfl, rfl, rfl, rfl, rfl, rfl⟩ := H
         have := NB101_102.out
         have := NB102_101.out
         have := NB101_106.out
         have := NB106_101.out
         obtain ⟨_, _, _, _, _, _⟩ := sD3 BK101
         try go_wp2
         replace HO_9 := sA (Kd.R_drew HO_9.out)
         replace HO_10 := sA (Kd.R_drew HO_10.out)
         replace HO_107001 := sA (Kd.R_drew HO_107001.out)
         replace HO_107002 := sA (Kd.R_drew HO_107002.out)
         replace BK101 := sA (blk_drew BK101.out)
         replace BK102 := sA (blk_drew BK102.out)
         replace BK106 := sA (blk_drew BK106.out)
         replace HB := sA (below_drew1 HB.out)
         obtain ⟨Ao110, co110, eo110⟩ := Kd.R_slice HO_107002.out
         (first | subst eo110 | (injection eo110 with f1_ f2_ f3_; have f4_ := f1_.symm; have f5_ := f3_.symm; clear f1_ f2_ f3_; subst f4_; subst f5_))
         refine start_ (n := 11) (S := fun w' => w'.cell? ⟨gb106, 0, none⟩ = some (.int .i64 a0_0) ∧ w'.cell? ⟨gb106, 1, none⟩ = some (.slice Ao11 t103.length co11) ∧ w'.cell? ⟨gb106, 2, none⟩ = some (.slice Ao110 x107002_3.length co110)) (ds := []) (sM 11 0) (by kernel_rfl) rfl rfl ⟨sC BK106 0 rfl, sC BK106 1 rfl, sC BK106 2 rfl⟩ (fun hHeld => ?_); refine with_tabW spec_l11Hear.tab21 spec_l11Hear.bits21 (fun HT_ HW_ => ?_)
         generalize wr.drew = w107 at HO_9 HO_10 HO_107001 HO_107002 BK101 BK102 BK106 HB hHeld ⊢
         refine sP (v := ?_) (a' := ?_) 1 97 (sM 11 2) HT_ ?_ ?_ ?_; rotate_left 2
         ·intro w'; go_simp; with_reducible rfl
         ·simp only [Act.put, sI, sZ, sV, i64_w, i32_w]; rfl
         refine sP (v := ?_) (a' := ?_) 2 98 (sM 11 6) HT_ ?_ ?_ ?_; rotate_left 2
         ·intro w'; go_simp; with_reducible rfl
         ·simp only [Act.put, sI, sZ, sV, i64_w, i32_w]; rfl
         refine sP (v := ?_) (a' := ?_) 3 99 (sM 11 14) HT_ ?_ ?_ ?_; rotate_left 2
         ·intro w'; go_simp; with_reducible rfl
         ·simp only [Act.put, sI, sZ, sV, i64_w, i32_w]; rfl
         refine sT (v := ?_) (a' := ?_) 0 96 (sM 11 15) HT_ HW_ hHeld ?_ ?_ ?_; rotate_left 2
         ·rintro w' ⟨s0, s1, s2⟩; go_simp; with_reducible rfl
         ·simp only [Act.put, sI, sZ, sV, i64_w, i32_w]; rfl
         refine sT (v := ?_) (a' := ?_) 4 100 (sM 11 31) HT_ HW_ hHeld ?_ ?_ ?_; rotate_left 2
         ·rintro w' ⟨s0, s1, s2⟩; go_simp; with_reducible rfl
         ·simp only [Act.put, sI, sZ, sV, i64_w, i32_w]; rfl
         refine sP (v := ?_) (a' := ?_) 5 101 (sM 11 63) HT_ ?_ ?_ ?_; rotate_left 2
         ·intro w'; go_simp; with_reducible rfl
         ·simp only [Act.put, sI, sZ, sV, i64_w, i32_w]; rfl
         refine sP (v := ?_) (a' := ?_) 6 102 (sM 11 127) HT_ ?_ ?_ ?_; rotate_left 2
         ·intro w'; go_simp; with_reducible rfl
         ·simp only [Act.put, sI, sZ, sV, i64_w, i32_w]; rfl
         refine one_ (i := 7) (N := none) (sM 11 255) rfl rfl (one_of HT_.out (by kernel_rfl)) (by decide) (fun K hK => ?_)
         have hs108 : w107.cell? ⟨gb102, 0, none⟩ = some (.int .i64 0) := sC BK102 0 rfl
         have hfs108 := blk_frozen BK102.out 0
         have hns108_0 := NB101_102.out
         have hns108_2 := NB106_102.out
         have hms108_0 := NB102_101.out
         have hms108_2 := NB102_106.out
         have hs109 : w107.cell? ⟨gb102, 1, none⟩ = some (.slice none 0 0) := sC BK102 1 rfl
         have hfs109 := blk_frozen BK102.out 1
         have hns109_0 := NB101_102.out
         have hns109_2 := NB106_102.out
         have hms109_0 := NB102_101.out
         have hms109_2 := NB102_106.out
         have hs111 : w107.cell? ⟨gb102, 2, none⟩ = some (.slice none 0 0) := sC BK102 2 rfl
         have hfs111 := blk_frozen BK102.out 2
         have hns111_0 := NB101_102.out
         have hns111_2 := NB106_102.out
         have hms111_0 := NB102_101.out
         have hms111_2 := NB102_106.out
         refine skip_ (w1 := ?_) (by rfl) rfl ?_ ?_
         rotate_left
         ·go_simp
          rfl
         refine hK.out _ _ ⟨((cell_far (p := ⟨gb102, _, none⟩) NB106_102.out _).trans (((cell_far (p := ⟨gb102, _, none⟩) NB106_102.out _).trans (((cell_far (p := ⟨gb102, _, none⟩) NB106_102.out _).trans (hHeld.1)))))), ((cell_far (p := ⟨gb102, _, none⟩) NB106_102.out _).trans (((cell_far (p := ⟨gb102, _, none⟩) NB106_102.out _).trans (((cell_far (p := ⟨gb102, _, none⟩) NB106_102.out _).trans (hHeld.2.1)))))), ((cell_far (p := ⟨gb102, _, none⟩) NB106_102.out _).trans (((cell_far (p := ⟨gb102, _, none⟩) NB106_102.out _).trans (((cell_far (p := ⟨gb102, _, none⟩) NB106_102.out _).trans (hHeld.2.2))))))⟩ (fun hHeld => ?_)
         clear hK K
         refine sP (v := ?_) (a' := ?_) 8 5 (sM 11 511) HT_ ?_ ?_ ?_; rotate_left 2
         ·intro w'; go_simp; with_reducible rfl
         ·simp only [Act.put, sI, sZ, sV, i64_w, i32_w]; rfl
         refine sP (v := ?_) (a' := ?_) 9 6 (sM 11 1023) HT_ ?_ ?_ ?_; rotate_left 2
         ·intro w'; go_simp; with_reducible rfl
         ·simp only [Act.put, sI, sZ, sV, i64_w, i32_w]; rfl
         refine sP (v := ?_) (a' := ?_) 10 7 (sM 11 2047) HT_ ?_ ?_ ?_; rotate_left 2
         ·intro w'; go_simp; with_reducible rfl
         ·simp only [Act.put, sI, sZ, sV, i64_w, i32_w]; rfl
         refine done_ (done_of HT_.out (by kernel_rfl)) ?_
         try go_wp2
         refine bodyPost_ret (results_list (rs := [.cell 4 31, .tmp 5, .tmp 6, .tmp 7]) rfl (by simp) (.cell gb102 31 #[.int .i64 a0_0, .slice Ao11 t103.length co11, .slice Ao110 x107002_3.length co110] (0, 0) _ rfl (by (with_reducible repeat first | apply blk_drewN | apply blk_drew | apply blk_alloc); refine blk_put (cs := #[.int .i64 a0_0, .slice Ao11 t103.length co11, .slice none 0 0]) ?_ 2 _ rfl; (with_reducible repeat first | apply blk_drewN | apply blk_drew | apply blk_alloc); refine blk_put (cs := #[.int .i64 a0_0, .slice none 0 0, .slice none 0 0]) ?_ 1 _ rfl; (with_reducible repeat first | apply blk_drewN | apply blk_drew | apply blk_alloc); refine blk_put (cs := #[.int .i64 0, .slice none 0 0, .slice none 0 0]) ?_ 0 _ rfl; (with_reducible repeat first | apply blk_drewN | apply blk_drew | apply blk_alloc); exact BK102.out) Try.underlying31 rfl (by kernel_rfl) (.tmp (.tmp (.tmp .nil))))) rfl ?_
         exact ⟨_, _, _, _, by first | rfl | (simp [errW_none, errW_some] <;> rfl) | (simp [*, errW_none, errW_some] <;> rfl), by (with_reducible repeat (first | apply Kd.R_alloc | apply Kd.R_drewN | apply Kd.R_drew)); exact Kd.R_mono (Kd.R_far (p := ⟨gb102, 2, none⟩) (Kd.R_far (p := ⟨gb102, 1, none⟩) (Kd.R_far (p := ⟨gb102, 0, none⟩) (Kd.R_types HO_107001.out BK102.out (by decide)) (fun _ hk => hk.2) (.int .i64 a0_0)) (fun _ hk => hk.2) (.slice Ao11 t103.length co11)) (fun _ hk => hk.2) (.slice Ao110 x107002_3.length co110)) (fun _ hk => trivial), by (with_reducible repeat (first | apply Kd.R_alloc | apply Kd.R_drewN | apply Kd.R_drew)); exact Kd.R_mono (Kd.R_far (p := ⟨gb102, 2, none⟩) (Kd.R_far (p := ⟨gb102, 1, none⟩) (Kd.R_far (p := ⟨gb102, 0, none⟩) (Kd.R_types HO_107002.out BK102.out (by decide)) (fun _ hk => hk.2) (.int .i64 a0_0)) (fun _ hk => hk.2) (.slice Ao11 t103.length co11)) (fun _ hk => hk.2) (.slice Ao110 x107002_3.length co110)) (fun _ hk => ⟨hk.1.1, hk.1.2⟩), by (with_reducible repeat (first | apply Kd.R_alloc | apply Kd.R_drewN | apply Kd.R_drew)); exact Kd.R_mono (Kd.R_far (p := ⟨gb102, 2, none⟩) (Kd.R_far (p := ⟨gb102, 1, none⟩) (Kd.R_far (p := ⟨gb102, 0, none⟩) (Kd.R_types HO_9.out BK102.out (by decide)) (fun _ hk => hk.2) (.int .i64 a0_0)) (fun _ hk => hk.2) (.slice Ao11 t103.length co11)) (fun _ hk => hk.2) (.slice Ao110 x107002_3.length co110)) (fun _ hk => ⟨hk.1.2, hk.1.1⟩), by (with_reducible repeat (first | apply Kd.R_alloc | apply Kd.R_drewN | apply Kd.R_drew)); exact Kd.R_mono (Kd.R_far (p := ⟨gb102, 2, none⟩) (Kd.R_far (p := ⟨gb102, 1, none⟩) (Kd.R_far (p := ⟨gb102, 0, none⟩) (Kd.R_types HO_10.out BK102.out (by decide)) (fun _ hk => hk.2) (.int .i64 a0_0)) (fun _ hk => hk.2) (.slice Ao11 t103.length co11)) (fun _ hk => hk.2) (.slice Ao110 x107002_3.length co110)) (fun _ hk => ⟨hk.1.2, hk.1.1⟩), by repeat (first | (with_reducible first | exact HB.out | apply sLA | apply sLN | apply sLD | refine sLS ?_ GE101.out | refine sLS ?_ GE102.out | refine sLS ?_ GE106.out) | exact HB.out)⟩

end Go.Proofs.Ytligcknlmbgbiaa.P

namespace Go.Proofs.Ytligcknlmbgbiaa.P
open Go.RowKit Go.Proofs.YtligcknlmbgbiaaW.PrintWords Go.Proofs.YtligcknlmbgbiaaW.PrintLast Go.Proofs.YtligcknlmbgbiaaW.PrintMore
attribute [local go_sem] max2_int min2_int max_two min_two max_three min_three max_four min_four
set_option linter.unusedVariables false
set_option linter.unusedSimpArgs false

/-! ### spec_HearSpans: function 21 -/
def spec_HearSpans.j0 : Nat → List (S59) → Bool → Int → List (S59) → List Int → Option (Int × (List (S59)) × List Int × List Int × List Int × Bool)
  | 0, _, _, _, _, _ => none
  | k + 1, x1, x21, x102000, x102001, x102002 => if x21 = true then (some (0, ([] : List (S59)), ([] : List Int), ([] : List Int), ([] : List Int), false)) else ((spec_l11Hear.f k x102000 x102001 x102002 x1).bind fun bt105 => (if bt105.2.2.2.2.2 = true then ((spec_l11Own.f bt105.1 bt105.2.1 bt105.2.2.1).bind fun bt120 => (some (bt120.1, bt120.2.1, bt120.2.2, bt105.2.2.2.1, bt105.2.2.2.2.1, true))) else (some (0, ([] : List (S59)), ([] : List Int), ([] : List Int), ([] : List Int), false))))
def spec_HearSpans.f (k : Nat) (a0_0 : Int) (l0_1 : List (S59)) (l0_2 : List Int) (l1 : List (S59)) : Option (Int × (List (S59)) × List Int × List Int × List Int × Bool) := (spec_GoodSender.f k a0_0 l0_1 l0_2).bind fun t103 => (if t103 = true then ((spec_l11Below.f k l1 a0_0).bind fun t104 => (spec_HearSpans.j0 k l1 (!t104) a0_0 l0_1 l0_2)) else (spec_HearSpans.j0 k l1 true a0_0 l0_1 l0_2))
set_option maxHeartbeats 8000000 in
set_option maxRecDepth 100000 in
theorem spec_HearSpans.calls (k : Nat) (a0_0 : Int) (A0_1 : Option Addr) (c0_1 : Nat) (l0_1 : List (S59)) (A0_2 : Option Addr) (c0_2 : Nat) (l0_2 : List Int) (A1 : Option Addr) (c1 : Nat) (l1 : List (S59)) (r1 : Int) (r2 : List (S59)) (r3 : List Int) (r4 : List Int) (r5 : List Int) (r6 : Bool) (w : World) (hr0_1 : Kd.C k59 w A0_1 l0_1.length l0_1) (hc0_1 : l0_1.length ≤ c0_1) (hr0_2 : Kd.C (Kd.int .i64) w A0_2 l0_2.length l0_2) (hc0_2 : l0_2.length ≤ c0_2) (hr1 : Kd.C k59 w A1 l1.length l1) (hc1 : l1.length ≤ c1) (h : spec_HearSpans.f k a0_0 l0_1 l0_2 l1 = some (r1, r2, r3, r4, r5, r6)) :
  Calls Try.prog 21 #[.agg #[.int .i64 a0_0, .slice A0_1 l0_1.length c0_1, .slice A0_2 l0_2.length c0_2], .slice A1 l1.length c1] w fun e w' => ∃ v1_ v2_ v3_ v4_ : Value, e = .returned (.tuple #[.agg #[.int .i64 r1, v1_, v2_], v3_, v4_, .bool r6]) ∧ Kd.R k59 59 w' w.heap.size (fun _ => True) v1_ r2 ∧ Kd.R (Kd.int .i64) 3 w' w.heap.size (fun k_ => some k_ ≠ (v3_ : Value).ownBlock ∧ some k_ ≠ (v4_ : Value).ownBlock) v2_ r3 ∧ Kd.R (Kd.int .i64) 3 w' w.heap.size (fun k_ => some k_ ≠ (v2_ : Value).ownBlock ∧ some k_ ≠ (v4_ : Value).ownBlock) v3_ r4 ∧ Kd.R (Kd.int .i64) 3 w' w.heap.size (fun k_ => some k_ ≠ (v2_ : Value).ownBlock ∧ some k_ ≠ (v3_ : Value).ownBlock) v4_ r5 ∧ Below w.heap.size w w' := by
 have hu31 := Try.underlying31
 have HR0_1 := sA hr0_1
 have HC0_1 := sA hc0_1
 clear hr0_1 hc0_1
 have HR0_2 := sA hr0_2
 have HC0_2 := sA hc0_2
 clear hr0_2 hc0_2
 have HR1 := sA hr1
 have HC1 := sA hc1
 clear hr1 hc1
 have HB := sA (Below.refl w.heap.size w)
 have H : ((spec_GoodSender.f k a0_0 l0_1 l0_2).bind fun t103 => (if t103 = true then ((spec_l11Below.f k l1 a0_0).bind fun t104 => (spec_HearSpans.j0 k l1 (!t104) a0_0 l0_1 l0_2)) else (spec_HearSpans.j0 k l1 true a0_0 l0_1 l0_2))) = some (r1, r2, r3, r4, r5, r6) := h
 clear h
 have HC3 := sA H
 clear H
 go_enter Try.func21, Try.ntmps21
 go_upto_region 1 with (first | ((with_reducible refine gate_dst (N := 2) rfl ?_); refine box_event ?hg (N := 2) ?hd (cs := #[.int .i64 a0_0, .slice A0_1 l0_1.length c0_1, .slice A0_2 l0_2.length c0_2]) (t := 31) ?hr ?_; (case hd => rfl); (case hg => rfl); (case hr => first | (go_simp; done) | (go_simp; rfl)); intro gb101 hg w4 hbox hb; have BK101 := sA (hbox); have GW101 := sA ((by rw [hg]; exact (below_size sH) : w.heap.size ≤ gb101)); have GE101 := sA ((by rw [hg]; exact (below_size sH) : w.heap.size ≤ gb101)); replace HB := sA (below_step sH hb); clear hb hbox hg) | ((with_reducible refine gate_dst (N := 4) rfl ?_); refine box_event ?hg (N := 4) ?hd (cs := #[.int .i64 0, .slice none 0 0, .slice none 0 0]) (t := 31) ?hr ?_; (case hd => rfl); (case hg => rfl); (case hr => first | (go_simp; done) | (go_simp; rfl)); intro gb102 hg w5 hbox hb; have BK102 := sA (hbox); have GW102 := sA ((by rw [hg]; exact (below_size sH) : w.heap.size ≤ gb102)); have GE102 := sA ((by rw [hg]; exact (below_size sH) : w.heap.size ≤ gb102)); replace HB := sA (below_step sH hb); have NB101_102 := sA ((by rw [hg]; exact Nat.ne_of_lt (blk_lt (sB BK101.out)) : gb101 ≠ gb102)); have NB102_101 := sA ((by rw [hg]; exact Nat.ne_of_gt (blk_lt (sB BK101.out)) : gb102 ≠ gb101)); replace BK101 := sJ BK101 hb; clear hb hbox hg))
 (try simp only [Act.put, sI, sZ, sV])
 go_cut [21] (fun v21 wc => ∃ (kq : Nat) (x21_2 : Bool), v21 = .bool x21_2 ∧ Aside0 (spec_HearSpans.j0 kq l1 x21_2 a0_0 l0_1 l0_2 = some (r1, r2, r3, r4, r5, r6)) ∧ Aside0 (kq ≤ k) ∧ Aside0 (wc.heap[gb101]? = some (.cells #[.int .i64 a0_0, (.slice A0_1 l0_1.length c0_1), (.slice A0_2 l0_2.length c0_2)] 31 (0, 0))) ∧ Aside0 (wc.heap[gb102]? = some (.cells #[.int .i64 0, (.slice none 0 0), (.slice none 0 0)] 31 (0, 0))) ∧ Aside0 (Below w.heap.size w wc))
 case first =>
  have H := HC3.out
  clear HC3
  obtain ⟨t103, A6, H⟩ := sN H
  by_cases c7 : t103 = true
  ·subst c7
   replace H := sY H
   obtain ⟨t104, A8, H⟩ := sN H
   have H' := sA H
   clear H
   have := NB101_102.out
   have := NB102_101.out
   obtain ⟨_, _, _, _, _, _⟩ := sD3 BK101
   go_wp2_with (first | ((with_reducible refine gate_callee (f := 33) rfl ?_); refine goesL_ (some 13) rfl rfl Try.func33 (by kernel_rfl) rfl #[.agg #[.int .i64 a0_0, .slice A0_1 l0_1.length c0_1, .slice A0_2 l0_2.length c0_2]] rfl sG ?_; (with_reducible refine (spec_GoodSender.calls k a0_0 _ _ l0_1 _ _ l0_2 true _ ?side1 ?side2 ?side3 ?side4 A6.out).mono ?_); (case side1 => exact sK (Kd.C_below HR0_1.out HB.out)); (case side2 => exact HC0_1.out); (case side3 => exact sK (Kd.C_below HR0_2.out HB.out)); (case side4 => exact HC0_2.out); rintro e w11 ⟨rfl, hb⟩; refine ⟨_, rfl, ?_⟩; replace BK101 := sJ BK101 hb; replace BK102 := sJ BK102 hb; replace HB := sA (below_step sH hb); (try clear hb); (try clear hb2); (try clear hk); (try clear hi); obtain ⟨_, _, _, _, _, _⟩ := sD3 BK101) | (go_at_call 40; (with_reducible refine (spec_l11Below.calls k _ _ l1 a0_0 t104 _ ?side1 ?side2 A8.out).mono ?_); (case side1 => exact sK (Kd.C_below HR1.out HB.out)); (case side2 => exact HC1.out); rintro e w13 ⟨rfl, hb⟩; replace BK101 := sJ BK101 hb; replace BK102 := sJ BK102 hb; replace HB := sA (below_step sH hb); (try clear hb); (try clear hb2); (try clear hk); (try clear hi)))
   go_meet
   case rel => exact ⟨_, (!t104), (by first | rfl | (simp; done) | (simp [*]; done)), H', ⟨by first | omega | exact Nat.le_refl _⟩, ⟨sB BK101.out⟩, ⟨sB BK102.out⟩, ⟨sH⟩⟩
  ·replace c7 := Bool.eq_false_iff.mpr c7
   subst c7
   replace H := sX H
   have H' := sA H
   clear H
   have := NB101_102.out
   have := NB102_101.out
   obtain ⟨_, _, _, _, _, _⟩ := sD3 BK101
   go_wp2_with (first | ((with_reducible refine gate_callee (f := 33) rfl ?_); refine goesL_ (some 13) rfl rfl Try.func33 (by kernel_rfl) rfl #[.agg #[.int .i64 a0_0, .slice A0_1 l0_1.length c0_1, .slice A0_2 l0_2.length c0_2]] rfl sG ?_; (with_reducible refine (spec_GoodSender.calls k a0_0 _ _ l0_1 _ _ l0_2 false _ ?side1 ?side2 ?side3 ?side4 A6.out).mono ?_); (case side1 => exact sK (Kd.C_below HR0_1.out HB.out)); (case side2 => exact HC0_1.out); (case side3 => exact sK (Kd.C_below HR0_2.out HB.out)); (case side4 => exact HC0_2.out); rintro e w16 ⟨rfl, hb⟩; refine ⟨_, rfl, ?_⟩; replace BK101 := sJ BK101 hb; replace BK102 := sJ BK102 hb; replace HB := sA (below_step sH hb); (try clear hb); (try clear hb2); (try clear hk); (try clear hi)))
   go_meet
   case rel => exact ⟨_, (true), (by first | rfl | (simp; done) | (simp [*]; done)), H', ⟨by first | omega | exact Nat.le_refl _⟩, ⟨sB BK101.out⟩, ⟨sB BK102.out⟩, ⟨sH⟩⟩
 case rest =>
  clear HC3
  (try clear c1); (try clear c2); (try clear p2); (try clear c3); (try clear c7); (try clear c9); (try clear c14)
  obtain ⟨kq, x21_2, rfl, HA, HJ2, BK101, BK102, HB⟩ := hcut
  cases kq with
  | zero => exact absurd HA.out (by simp [spec_HearSpans.j0])
  | succ kj2 =>
   have H := HA.out
   clear HA
   simp only [spec_HearSpans.j0] at H
   by_cases c17 : x21_2 = true
   ·subst c17
    replace H := sY H
    simp only [Option.some.injEq, Prod.mk.injEq] at H
    obtain ⟨rfl, rfl, rfl, rfl, rfl, rfl⟩ := H
    have := NB102_101.out
    have := NB101_102.out
    obtain ⟨_, _, _, _, _, _⟩ := sD3 BK102
    go_wp2
    refine bodyPost_ret (results_list (rs := [.cell 4 31, .tmp 5, .tmp 6, .tmp 7]) rfl (by simp) (.cell gb102 31 #[.int .i64 0, .slice none 0 0, .slice none 0 0] (0, 0) _ rfl (by (with_reducible repeat first | apply blk_drewN | apply blk_drew | apply blk_alloc); refine blk_put (cs := #[.int .i64 0, .slice none 0 0, .slice none 0 0]) ?_ 2 _ rfl; (with_reducible repeat first | apply blk_drewN | apply blk_drew | apply blk_alloc); refine blk_put (cs := #[.int .i64 0, .slice none 0 0, .slice none 0 0]) ?_ 1 _ rfl; (with_reducible repeat first | apply blk_drewN | apply blk_drew | apply blk_alloc); refine blk_put (cs := #[.int .i64 0, .slice none 0 0, .slice none 0 0]) ?_ 0 _ rfl; (with_reducible repeat first | apply blk_drewN | apply blk_drew | apply blk_alloc); exact BK102.out) Try.underlying31 rfl (by kernel_rfl) (.tmp (.tmp (.tmp .nil))))) rfl ?_
    exact ⟨_, _, _, _, by first | rfl | (simp [errW_none, errW_some] <;> rfl) | (simp [*, errW_none, errW_some] <;> rfl), by first | exact Kd.R_nil _ _ _ _ _ | exact Kd.N_nil _ _ _ _ _ | exact Kd.V_nil _ _ _ _ _ | exact Kd.Q_nil _ _ _ _ _ | exact Kd.S_nil _ _ _ _ _, by first | exact Kd.R_nil _ _ _ _ _ | exact Kd.N_nil _ _ _ _ _ | exact Kd.V_nil _ _ _ _ _ | exact Kd.Q_nil _ _ _ _ _ | exact Kd.S_nil _ _ _ _ _, by first | exact Kd.R_nil _ _ _ _ _ | exact Kd.N_nil _ _ _ _ _ | exact Kd.V_nil _ _ _ _ _ | exact Kd.Q_nil _ _ _ _ _ | exact Kd.S_nil _ _ _ _ _, by first | exact Kd.R_nil _ _ _ _ _ | exact Kd.N_nil _ _ _ _ _ | exact Kd.V_nil _ _ _ _ _ | exact Kd.Q_nil _ _ _ _ _ | exact Kd.S_nil _ _ _ _ _, by repeat (first | (with_reducible first | exact HB.out | apply sLA | apply sLN | apply sLD | refine sLS ?_ GE101.out | refine sLS ?_ GE102.out) | exact HB.out)⟩
   ·replace c17 := Bool.eq_false_iff.mpr c17
    subst c17
    replace H := sX H
    obtain ⟨⟨t105, t106, t109, t112, t115, t118⟩, A20, H⟩ := sN H
    (try dsimp only at H)
    by_cases c21 : t118 = true
    ·subst c21
     replace H := sY H
     obtain ⟨⟨t120, t121, t124⟩, A22, H⟩ := sN H
     (try dsimp only at H)
     simp only [Option.some.injEq, Prod.mk.injEq] at H
     obtain ⟨rfl, rfl, rfl, rfl, rfl, rfl⟩ := H
     have := NB101_102.out
     have := NB102_101.out
     obtain ⟨_, _, _, _, _, _⟩ := sD3 BK101
     go_wp2_with (first | ((with_reducible refine gate_callee (f := 41) rfl ?_); refine goesL_ (some 26) rfl rfl Try.func41 (by kernel_rfl) rfl #[.agg #[.int .i64 a0_0, .slice A0_1 l0_1.length c0_1, .slice A0_2 l0_2.length c0_2], .slice A1 l1.length c1] rfl sG ?_; (with_reducible refine (spec_l11Hear.calls kj2 a0_0 _ _ l0_1 _ _ l0_2 _ _ l1 t105 t106 t109 t112 t115 true _ ?side1 ?side2 ?side3 ?side4 ?side5 ?side6 A20.out).mono ?_); (case side1 => exact sK (Kd.C_below HR0_1.out HB.out)); (case side2 => exact HC0_1.out); (case side3 => exact sK (Kd.C_below HR0_2.out HB.out)); (case side4 => exact HC0_2.out); (case side5 => exact sK (Kd.C_below HR1.out HB.out)); (case side6 => exact HC1.out); rintro e w25 ⟨v107, v110, v113, v116, rfl, ho0, ho1, ho2, ho3, hb⟩; refine ⟨_, rfl, ?_⟩; have HO108 := sA (Kd.R_lower ho0 (below_size sH)); have HO111 := sA (Kd.R_lower ho1 (below_size sH)); have HO114 := sA (Kd.R_lower ho2 (below_size sH)); have HO117 := sA (Kd.R_lower ho3 (below_size sH)); replace BK101 := sJ BK101 hb; replace BK102 := sJ BK102 hb; replace HB := sA (below_step sH hb); (try clear hb); (try clear hb2); (try clear hk); (try clear hi); (try clear ho0); (try clear ho1); (try clear ho2); (try clear ho3)) | ((with_reducible refine gate_dst (N := 8) rfl ?_); refine box_event ?hg (N := 8) ?hd (cs := #[.int .i64 0, .slice none 0 0, .slice none 0 0]) (t := 31) ?hr ?_; (case hd => rfl); (case hg => rfl); (case hr => first | (go_simp; done) | (go_simp; rfl)); intro gb119 hg w26 hbox hb; replace HO108 := sS HO108 hb; replace HO111 := sS HO111 hb; replace HO114 := sS HO114 hb; replace HO117 := sS HO117 hb; have BK119 := sA (hbox); have GW119 := sA ((by rw [hg]; exact (below_size sH) : w.heap.size ≤ gb119)); have GE119 := sA ((by rw [hg]; exact (below_size sH) : w.heap.size ≤ gb119)); replace HB := sA (below_step sH hb); have NB101_119 := sA ((by rw [hg]; exact Nat.ne_of_lt (blk_lt (sB BK101.out)) : gb101 ≠ gb119)); have NB119_101 := sA ((by rw [hg]; exact Nat.ne_of_gt (blk_lt (sB BK101.out)) : gb119 ≠ gb101)); replace BK101 := sJ BK101 hb; have NB102_119 := sA ((by rw [hg]; exact Nat.ne_of_lt (blk_lt (sB BK102.out)) : gb102 ≠ gb119)); have NB119_102 := sA ((by rw [hg]; exact Nat.ne_of_gt (blk_lt (sB BK102.out)) : gb119 ≠ gb102)); replace BK102 := sJ BK102 hb; clear hb hbox hg; have := NB119_101.out; have := NB101_119.out; have := NB119_102.out; have := NB102_119.out; obtain ⟨_, _, _, _, _, _⟩ := sD3 BK119; obtain ⟨Ao30, co30, eo30⟩ := Kd.R_slice HO108.out; subst eo30; obtain ⟨Ao31, co31, eo31⟩ := Kd.R_slice HO111.out; subst eo31) | ((with_reducible refine gate_callee (f := 37) rfl ?_); refine goesL_ (some 35) rfl rfl Try.func37 (by kernel_rfl) rfl #[.agg #[.int .i64 t105, .slice Ao30 t106.length co30, .slice Ao31 t109.length co31]] rfl sG ?_; (with_reducible refine (spec_l11Own.calls t105 _ _ t106 _ _ t109 t120 t121 t124 _ ?side1 ?side2 ?side3 ?side4 A22.out).mono ?_); (case side1 => exact (Kd.R_reads' (sE HO108 BK119 (by decide))).2.2); (case side2 => exact (Kd.R_reads' HO108.out).2.1); (case side3 => exact (Kd.R_reads' (sE HO111 BK119 (by decide))).2.2); (case side4 => exact (Kd.R_reads' HO111.out).2.1); rintro e w32 ⟨v122, v125, rfl, ho0, ho1, hb⟩; refine ⟨_, rfl, ?_⟩; have HO123 := sA (Kd.R_lower (Kd.R_new' ho0 (Kd.R_lt (sE HO108 BK119 (by decide)))) (below_size sH)); replace HO108 := sA (Kd.R_elder' (sE HO108 BK119 (by decide)) (Kd.R_base ho0) hb); have HO126 := sA (Kd.R_lower (Kd.R_new' (Kd.R_new' (Kd.R_new' ho1 (Kd.R_lt (sE HO111 BK119 (by decide)))) (Kd.R_lt (sE HO114 BK119 (by decide)))) (Kd.R_lt (sE HO117 BK119 (by decide)))) (below_size sH)); replace HO111 := sA (Kd.R_elder' (sE HO111 BK119 (by decide)) (Kd.R_base ho1) hb); replace HO114 := sA (Kd.R_elder' (sE HO114 BK119 (by decide)) (Kd.R_base ho1) hb); replace HO117 := sA (Kd.R_elder' (sE HO117 BK119 (by decide)) (Kd.R_base ho1) hb); replace BK101 := sA (blk_below (g := gb101) (o := .cells #[.int .i64 a0_0, .slice A0_1 l0_1.length c0_1, .slice A0_2 l0_2.length c0_2] 31 (0, 0)) (sF BK101 NB101_119) hb); replace BK102 := sA (blk_below (g := gb102) (o := .cells #[.int .i64 0, .slice none 0 0, .slice none 0 0] 31 (0, 0)) (sF BK102 NB102_119) hb); replace BK119 := sA (blk_below (g := gb119) (o := .cells #[.int .i64 t105, .slice Ao30 t106.length co30, .slice Ao31 t109.length co31] 31 (0, 0)) (by (with_reducible repeat first | apply blk_drewN | apply blk_drew | apply blk_alloc); refine blk_put (cs := #[.int .i64 t105, .slice Ao30 t106.length co30, .slice none 0 0]) ?_ 2 _ rfl; (with_reducible repeat first | apply blk_drewN | apply blk_drew | apply blk_alloc); refine blk_put (cs := #[.int .i64 t105, .slice none 0 0, .slice none 0 0]) ?_ 1 _ rfl; (with_reducible repeat first | apply blk_drewN | apply blk_drew | apply blk_alloc); refine blk_put (cs := #[.int .i64 0, .slice none 0 0, .slice none 0 0]) ?_ 0 _ rfl; (with_reducible repeat first | apply blk_drewN | apply blk_drew | apply blk_alloc); exact BK119.out) hb); replace HB := sA (below_step sH hb); (try clear hb); (try clear hb2); (try clear hk); (try clear hi); (try clear ho0); (try clear ho1); obtain ⟨_, _, _, _, _, _⟩ := sD3 BK102; obtain ⟨Ao34, co34, eo34⟩ := Kd.R_slice HO123.out; subst eo34; obtain ⟨Ao35, co35, eo35⟩ := Kd.R_slice HO126.out; subst eo35))
     refine bodyPost_ret (results_list (rs := [.cell 4 31, .tmp 5, .tmp 6, .tmp 7]) rfl (by simp) (.cell gb102 31 #[.int .i64 t120, .slice Ao34 t121.length co34, .slice Ao35 t124.length co35] (0, 0) _ rfl (by (with_reducible repeat first | apply blk_drewN | apply blk_drew | apply blk_alloc); refine blk_put (cs := #[.int .i64 t120, .slice Ao34 t121.length co34, .slice none 0 0]) ?_ 2 _ rfl; (with_reducible repeat first | apply blk_drewN | apply blk_drew | apply blk_alloc); refine blk_put (cs := #[.int .i64 t120, .slice none 0 0, .slice none 0 0]) ?_ 1 _ rfl; (with_reducible repeat first | apply blk_drewN | apply blk_drew | apply blk_alloc); refine blk_put (cs := #[.int .i64 0, .slice none 0 0, .slice none 0 0]) ?_ 0 _ rfl; (with_reducible repeat first | apply blk_drewN | apply blk_drew | apply blk_alloc); exact BK102.out) Try.underlying31 rfl (by kernel_rfl) (.tmp (.tmp (.tmp .nil))))) rfl ?_
     exact ⟨_, _, _, _, by first | rfl | (simp [errW_none, errW_some] <;> rfl) | (simp [*, errW_none, errW_some] <;> rfl), by (with_reducible repeat (first | apply Kd.R_alloc | apply Kd.R_drewN | apply Kd.R_drew)); exact Kd.R_mono (Kd.R_far (p := ⟨gb102, 2, none⟩) (Kd.R_far (p := ⟨gb102, 1, none⟩) (Kd.R_far (p := ⟨gb102, 0, none⟩) (Kd.R_types HO123.out BK102.out (by decide)) (fun _ hk => hk.2) (.int .i64 t120)) (fun _ hk => hk.2) (.slice Ao34 t121.length co34)) (fun _ hk => hk.2) (.slice Ao35 t124.length co35)) (fun _ hk => trivial), by (with_reducible repeat (first | apply Kd.R_alloc | apply Kd.R_drewN | apply Kd.R_drew)); exact Kd.R_mono (Kd.R_far (p := ⟨gb102, 2, none⟩) (Kd.R_far (p := ⟨gb102, 1, none⟩) (Kd.R_far (p := ⟨gb102, 0, none⟩) (Kd.R_types HO126.out BK102.out (by decide)) (fun _ hk => hk.2) (.int .i64 t120)) (fun _ hk => hk.2) (.slice Ao34 t121.length co34)) (fun _ hk => hk.2) (.slice Ao35 t124.length co35)) (fun _ hk => ⟨hk.1.1.2, hk.1.2⟩), by (with_reducible repeat (first | apply Kd.R_alloc | apply Kd.R_drewN | apply Kd.R_drew)); exact Kd.R_mono (Kd.R_far (p := ⟨gb102, 2, none⟩) (Kd.R_far (p := ⟨gb102, 1, none⟩) (Kd.R_far (p := ⟨gb102, 0, none⟩) (Kd.R_types HO114.out BK102.out (by decide)) (fun _ hk => hk.2) (.int .i64 t120)) (fun _ hk => hk.2) (.slice Ao34 t121.length co34)) (fun _ hk => hk.2) (.slice Ao35 t124.length co35)) (fun _ hk => ⟨hk.1.2, hk.1.1.2⟩), by (with_reducible repeat (first | apply Kd.R_alloc | apply Kd.R_drewN | apply Kd.R_drew)); exact Kd.R_mono (Kd.R_far (p := ⟨gb102, 2, none⟩) (Kd.R_far (p := ⟨gb102, 1, none⟩) (Kd.R_far (p := ⟨gb102, 0, none⟩) (Kd.R_types HO117.out BK102.out (by decide)) (fun _ hk => hk.2) (.int .i64 t120)) (fun _ hk => hk.2) (.slice Ao34 t121.length co34)) (fun _ hk => hk.2) (.slice Ao35 t124.length co35)) (fun _ hk => ⟨hk.1.2, hk.1.1.2⟩), by repeat (first | (with_reducible first | exact HB.out | apply sLA | apply sLN | apply sLD | refine sLS ?_ GE101.out | refine sLS ?_ GE102.out | refine sLS ?_ GE119.out) | exact HB.out)⟩
    ·replace c21 := Bool.eq_false_iff.mpr c21
     subst c21
     replace H := sX H
     simp only [Option.some.injEq, Prod.mk.injEq] at H
     obtain ⟨rfl, rfl, rfl, rfl, rfl, rfl⟩ := H
     have := NB101_102.out
     have := NB102_101.out
     obtain ⟨_, _, _, _, _, _⟩ := sD3 BK101
     go_wp2_with (first | ((with_reducible refine gate_callee (f := 41) rfl ?_); refine goesL_ (some 26) rfl rfl Try.func41 (by kernel_rfl) rfl #[.agg #[.int .i64 a0_0, .slice A0_1 l0_1.length c0_1, .slice A0_2 l0_2.length c0_2], .slice A1 l1.length c1] rfl sG ?_; (with_reducible refine (spec_l11Hear.calls kj2 a0_0 _ _ l0_1 _ _ l0_2 _ _ l1 t105 t106 t109 t112 t115 false _ ?side1 ?side2 ?side3 ?side4 ?side5 ?side6 A20.out).mono ?_); (case side1 => exact sK (Kd.C_below HR0_1.out HB.out)); (case side2 => exact HC0_1.out); (case side3 => exact sK (Kd.C_below HR0_2.out HB.out)); (case side4 => exact HC0_2.out); (case side5 => exact sK (Kd.C_below HR1.out HB.out)); (case side6 => exact HC1.out); rintro e w38 ⟨v107, v110, v113, v116, rfl, ho0, ho1, ho2, ho3, hb⟩; refine ⟨_, rfl, ?_⟩; have HO108 := sA (Kd.R_lower ho0 (below_size sH)); have HO111 := sA (Kd.R_lower ho1 (below_size sH)); have HO114 := sA (Kd.R_lower ho2 (below_size sH)); have HO117 := sA (Kd.R_lower ho3 (below_size sH)); replace BK101 := sJ BK101 hb; replace BK102 := sJ BK102 hb; replace HB := sA (below_step sH hb); (try clear hb); (try clear hb2); (try clear hk); (try clear hi); (try clear ho0); (try clear ho1); (try clear ho2); (try clear ho3)) | ((with_reducible refine gate_dst (N := 8) rfl ?_); refine box_event ?hg (N := 8) ?hd (cs := #[.int .i64 0, .slice none 0 0, .slice none 0 0]) (t := 31) ?hr ?_; (case hd => rfl); (case hg => rfl); (case hr => first | (go_simp; done) | (go_simp; rfl)); intro gb119 hg w39 hbox hb; replace HO108 := sS HO108 hb; replace HO111 := sS HO111 hb; replace HO114 := sS HO114 hb; replace HO117 := sS HO117 hb; have BK119 := sA (hbox); have GW119 := sA ((by rw [hg]; exact (below_size sH) : w.heap.size ≤ gb119)); have GE119 := sA ((by rw [hg]; exact (below_size sH) : w.heap.size ≤ gb119)); replace HB := sA (below_step sH hb); have NB101_119 := sA ((by rw [hg]; exact Nat.ne_of_lt (blk_lt (sB BK101.out)) : gb101 ≠ gb119)); have NB119_101 := sA ((by rw [hg]; exact Nat.ne_of_gt (blk_lt (sB BK101.out)) : gb119 ≠ gb101)); replace BK101 := sJ BK101 hb; have NB102_119 := sA ((by rw [hg]; exact Nat.ne_of_lt (blk_lt (sB BK102.out)) : gb102 ≠ gb119)); have NB119_102 := sA ((by rw [hg]; exact Nat.ne_of_gt (blk_lt (sB BK102.out)) : gb119 ≠ gb102)); replace BK102 := sJ BK102 hb; clear hb hbox hg; have := NB119_101.out; have := NB101_119.out; have := NB119_102.out; have := NB102_119.out; obtain ⟨_, _, _, _, _, _⟩ := sD3 BK119; obtain ⟨Ao43, co43, eo43⟩ := Kd.R_slice HO108.out; subst eo43; obtain ⟨Ao44, co44, eo44⟩ := Kd.R_slice HO111.out; subst eo44; obtain ⟨_, _, _, _, _, _⟩ := sD3 BK102))
     refine bodyPost_ret (results_list (rs := [.cell 4 31, .tmp 5, .tmp 6, .tmp 7]) rfl (by simp) (.cell gb102 31 #[.int .i64 0, .slice none 0 0, .slice none 0 0] (0, 0) _ rfl (by (with_reducible repeat first | apply blk_drewN | apply blk_drew | apply blk_alloc); refine blk_put (cs := #[.int .i64 0, .slice none 0 0, .slice none 0 0]) ?_ 2 _ rfl; (with_reducible repeat first | apply blk_drewN | apply blk_drew | apply blk_alloc); refine blk_put (cs := #[.int .i64 0, .slice none 0 0, .slice none 0 0]) ?_ 1 _ rfl; (with_reducible repeat first | apply blk_drewN | apply blk_drew | apply blk_alloc); refine blk_put (cs := #[.int .i64 0, .slice none 0 0, .slice none 0 0]) ?_ 0 _ rfl; (with_reducible repeat first | apply blk_drewN | apply blk_drew | apply blk_alloc); refine blk_far ?_ NB102_119.out _; (with_reducible repeat first | apply blk_drewN | apply blk_drew | apply blk_alloc); refine blk_far ?_ NB102_119.out _; (with_reducible repeat first | apply blk_drewN | apply blk_drew | apply blk_alloc); refine blk_far ?_ NB102_119.out _; (with_reducible repeat first | apply blk_drewN | apply blk_drew | apply blk_alloc); exact BK102.out) Try.underlying31 rfl (by kernel_rfl) (.tmp (.tmp (.tmp .nil))))) rfl ?_
     exact ⟨_, _, _, _, by first | rfl | (simp [errW_none, errW_some] <;> rfl) | (simp [*, errW_none, errW_some] <;> rfl), by first | exact Kd.R_nil _ _ _ _ _ | exact Kd.N_nil _ _ _ _ _ | exact Kd.V_nil _ _ _ _ _ | exact Kd.Q_nil _ _ _ _ _ | exact Kd.S_nil _ _ _ _ _, by first | exact Kd.R_nil _ _ _ _ _ | exact Kd.N_nil _ _ _ _ _ | exact Kd.V_nil _ _ _ _ _ | exact Kd.Q_nil _ _ _ _ _ | exact Kd.S_nil _ _ _ _ _, by first | exact Kd.R_nil _ _ _ _ _ | exact Kd.N_nil _ _ _ _ _ | exact Kd.V_nil _ _ _ _ _ | exact Kd.Q_nil _ _ _ _ _ | exact Kd.S_nil _ _ _ _ _, by first | exact Kd.R_nil _ _ _ _ _ | exact Kd.N_nil _ _ _ _ _ | exact Kd.V_nil _ _ _ _ _ | exact Kd.Q_nil _ _ _ _ _ | exact Kd.S_nil _ _ _ _ _, by repeat (first | (with_reducible first | exact HB.out | apply sLA | apply sLN | apply sLD | refine sLS ?_ GE101.out | refine sLS ?_ GE102.out | refine sLS ?_ GE119.out) | exact HB.out)⟩

end Go.Proofs.Ytligcknlmbgbiaa.P

namespace Go.Proofs.Ytligcknlmbgbiaa.P
open Go.RowKit Go.Proofs.YtligcknlmbgbiaaW.PrintWords Go.Proofs.YtligcknlmbgbiaaW.PrintLast Go.Proofs.YtligcknlmbgbiaaW.PrintMore
attribute [local go_sem] max2_int min2_int max_two min_two max_three min_three max_four min_four
set_option linter.unusedVariables false
set_option linter.unusedSimpArgs false

/-! ### impl_isSpan: function 80 -/
def impl_isSpan.f (a0_0 : Int) (a0_1 : Int) : Option (Bool) := if a0_0 ≥ 0 then (if a0_0 < a0_1 then (some (decide (a0_1 ≤ 1000000))) else (some false)) else (some false)
set_option maxHeartbeats 8000000 in
set_option maxRecDepth 100000 in
theorem impl_isSpan.calls (a0_0 : Int) (a0_1 : Int) (r : Bool) (w : World) (h : impl_isSpan.f a0_0 a0_1 = some r) :
  Calls Try.prog 80 #[.agg #[.int .i64 a0_0, .int .i64 a0_1]] w fun e w' => e = .returned (.bool r) ∧ Below w.heap.size w w' := by
 have hu59 := Try.underlying59
 have HB := sA (Below.refl w.heap.size w)
 have H : (if a0_0 ≥ 0 then (if a0_0 < a0_1 then (some (decide (a0_1 ≤ 1000000))) else (some false)) else (some false)) = some r := h
 clear h
 by_cases c2 : a0_0 ≥ 0
 ·rw [if_pos c2] at H
  have c2b0 : decide (0 ≤ a0_0) = true := decide_eq_true c2
  clear c2
  by_cases c3 : a0_0 < a0_1
  ·rw [if_pos c3] at H
   have c3b0 : decide (a0_0 < a0_1) = true := decide_eq_true c3
   clear c3
   obtain rfl := Option.some.inj H
   go_enter Try.func80, Try.ntmps80
   go_wp2_with (first | ((with_reducible refine gate_dst (N := 1) rfl ?_); refine box_event ?hg (N := 1) ?hd (cs := #[.int .i64 a0_0, .int .i64 a0_1]) (t := 59) ?hr ?_; (case hd => rfl); (case hg => rfl); (case hr => first | (go_simp; done) | (go_simp; rfl)); intro gb101 hg w4 hbox hb; have BK101 := sA (hbox); have GW101 := sA ((by rw [hg]; exact (below_size sH) : w.heap.size ≤ gb101)); have GE101 := sA ((by rw [hg]; exact (below_size sH) : w.heap.size ≤ gb101)); replace HB := sA (below_step sH hb); clear hb hbox hg; obtain ⟨_, _, _, _⟩ := sD2 BK101))
   go_ret
   exact ⟨by first | rfl | (simp [errW_none, errW_some] <;> rfl) | (simp [*, errW_none, errW_some] <;> rfl), by repeat (first | (with_reducible first | exact HB.out | apply sLA | apply sLN | apply sLD | refine sLS ?_ GE101.out) | exact HB.out)⟩
  ·rw [if_neg c3] at H
   have c3b0 : decide (a0_0 < a0_1) = false := decide_eq_false c3
   clear c3
   obtain rfl := Option.some.inj H
   go_enter Try.func80, Try.ntmps80
   go_wp2_with (first | ((with_reducible refine gate_dst (N := 1) rfl ?_); refine box_event ?hg (N := 1) ?hd (cs := #[.int .i64 a0_0, .int .i64 a0_1]) (t := 59) ?hr ?_; (case hd => rfl); (case hg => rfl); (case hr => first | (go_simp; done) | (go_simp; rfl)); intro gb101 hg w6 hbox hb; have BK101 := sA (hbox); have GW101 := sA ((by rw [hg]; exact (below_size sH) : w.heap.size ≤ gb101)); have GE101 := sA ((by rw [hg]; exact (below_size sH) : w.heap.size ≤ gb101)); replace HB := sA (below_step sH hb); clear hb hbox hg; obtain ⟨_, _, _, _⟩ := sD2 BK101))
   go_ret
   exact ⟨by first | rfl | (simp [errW_none, errW_some] <;> rfl) | (simp [*, errW_none, errW_some] <;> rfl), by repeat (first | (with_reducible first | exact HB.out | apply sLA | apply sLN | apply sLD | refine sLS ?_ GE101.out) | exact HB.out)⟩
 ·rw [if_neg c2] at H
  have c2b0 : decide (0 ≤ a0_0) = false := decide_eq_false c2
  clear c2
  obtain rfl := Option.some.inj H
  go_enter Try.func80, Try.ntmps80
  go_wp2_with (first | ((with_reducible refine gate_dst (N := 1) rfl ?_); refine box_event ?hg (N := 1) ?hd (cs := #[.int .i64 a0_0, .int .i64 a0_1]) (t := 59) ?hr ?_; (case hd => rfl); (case hg => rfl); (case hr => first | (go_simp; done) | (go_simp; rfl)); intro gb101 hg w8 hbox hb; have BK101 := sA (hbox); have GW101 := sA ((by rw [hg]; exact (below_size sH) : w.heap.size ≤ gb101)); have GE101 := sA ((by rw [hg]; exact (below_size sH) : w.heap.size ≤ gb101)); replace HB := sA (below_step sH hb); clear hb hbox hg; obtain ⟨_, _, _, _⟩ := sD2 BK101))
  go_ret
  exact ⟨by first | rfl | (simp [errW_none, errW_some] <;> rfl) | (simp [*, errW_none, errW_some] <;> rfl), by repeat (first | (with_reducible first | exact HB.out | apply sLA | apply sLN | apply sLD | refine sLS ?_ GE101.out) | exact HB.out)⟩

end Go.Proofs.Ytligcknlmbgbiaa.P

namespace Go.Proofs.Ytligcknlmbgbiaa.P
open Go.RowKit Go.Proofs.YtligcknlmbgbiaaW.PrintWords Go.Proofs.YtligcknlmbgbiaaW.PrintLast Go.Proofs.YtligcknlmbgbiaaW.PrintMore
attribute [local go_sem] max2_int min2_int max_two min_two max_three min_three max_four min_four
set_option linter.unusedVariables false
set_option linter.unusedSimpArgs false

/-! ### impl_areSpans: function 67 -/
def impl_areSpans.l0 : Nat → List (S59) → List (S59) → Int → Int → Option (Bool)
  | 0, _, _, _, _ => none
  | k + 1, x0, x8, x9, x10 => if x10 < x9 then (if 0 ≤ x10 then (if x10 < (x8.length : Int) then ((impl_isSpan.f ((rd_T59 x8 x10).f0) ((rd_T59 x8 x10).f1)).bind fun t103 => (if t103 = true then (if x10 > 0 then (if 0 ≤ (wrap64 (x10 - 1)) then (if (wrap64 (x10 - 1)) < (x0.length : Int) then (if ((rd_T59 x8 x10).f0) ≤ ((rd_T59 x0 (wrap64 (x10 - 1))).f1) then (some false) else (impl_areSpans.l0 k x0 x8 x9 (wrap64 (x10 + 1)))) else (none)) else (none)) else (impl_areSpans.l0 k x0 x8 x9 (wrap64 (x10 + 1)))) else (some false))) else (none)) else (none)) else (some true)
def impl_areSpans.f (k : Nat) (l0 : List (S59)) : Option (Bool) := if (l0.length : Int) > 20 then (some false) else (impl_areSpans.l0 k l0 l0 (l0.length : Int) 0)
def impl_areSpans.T6 : Bool × List (List Nat × List Nat) := (true, [([], []), ([0], [0]), ([1], [1]), ([2, 1], [2]), ([3], [3]), ([4, 3], [3, 4]), ([5, 3, 3], [3, 5]), ([6], [6]), ([7, 6], [6, 7]), ([6], [6]), ([6], [6]), ([10, 6], [6, 10]), ([9, 11, 6], [6, 9, 11]), ([12, 6], [6, 12]), ([13, 6], [6, 13]), ([8, 14, 6], [6, 8, 14]), ([6, 15, 3], [3, 6, 15]), ([3, 16], [3, 16])])
def impl_areSpans.B6 : List Nat := [0, 1, 3, 7, 15, 31, 63, 127, 255, 127, 127, 1151, 3711, 7807, 15999, 32767, 65535, 131071]
theorem impl_areSpans.tab6 : rtab .any (opsOf Try.f67 6) = impl_areSpans.T6 := by kernel_rfl
theorem impl_areSpans.bits6 : waitsOk impl_areSpans.T6.2 impl_areSpans.B6 = true := by kernel_rfl
set_option maxHeartbeats 8000000 in
set_option maxRecDepth 100000 in
theorem impl_areSpans.calls (k : Nat) (A0 : Option Addr) (c0 : Nat) (l0 : List (S59)) (r : Bool) (w : World) (hr0 : Kd.C k59 w A0 l0.length l0) (hc0 : l0.length ≤ c0) (h : impl_areSpans.f k l0 = some r) :
  Calls Try.prog 67 #[.slice A0 l0.length c0] w fun e w' => e = .returned (.bool r) ∧ Below w.heap.size w w' := by
 have hu59 := Try.underlying59
 have HR0 := sA hr0
 have HC0 := sA hc0
 clear hr0 hc0
 have HB := sA (Below.refl w.heap.size w)
 have H : (if (l0.length : Int) > 20 then (some false) else (impl_areSpans.l0 k l0 l0 (l0.length : Int) 0)) = some r := h
 clear h
 by_cases c2 : (l0.length : Int) > 20
 ·rw [if_pos c2] at H
  have c2b0 : decide (20 < (l0.length : Int)) = true := decide_eq_true c2
  have c2b1 : decide (20 < l0.length) = true := decide_eq_true (by omega)
  clear c2
  obtain rfl := Option.some.inj H
  go_enter Try.func67, Try.ntmps67
  go_wp2
  go_ret
  exact ⟨by first | rfl | (simp [errW_none, errW_some] <;> rfl) | (simp [*, errW_none, errW_some] <;> rfl), by repeat (first | (with_reducible first | exact HB.out | apply sLA | apply sLN | apply sLD) | exact HB.out)⟩
 ·rw [if_neg c2] at H
  have c2b0 : decide (20 < (l0.length : Int)) = false := decide_eq_false c2
  have c2b1 : decide (20 < l0.length) = false := decide_eq_false (by omega)
  clear c2
  have H' := sA H
  clear H
  go_enter Try.func67, Try.ntmps67
  go_wp2
  go_loopg [10] k (fun kq v10 w' => ∃ (x10_1 : Int), v10 = .int .i64 x10_1 ∧ Aside0 (impl_areSpans.l0 kq l0 l0 (l0.length : Int) x10_1 = some r) ∧ Aside0 (kq ≤ k) ∧ Aside0 (Below w.heap.size w w'))
  case atStart => exact ⟨(0), (by first | rfl | (simp; done) | (simp [*]; done)), H', ⟨Nat.le_refl _⟩, ⟨sH⟩⟩
  case round =>
   clear H'
   (try clear c2); (try clear c2b0); (try clear c2b1); (try clear p2)
   obtain ⟨x10_1, rfl, HA, HK1, HB⟩ := hrel
   cases gk with
   | zero => exact absurd HA.out (by simp [impl_areSpans.l0])
   | succ k1 =>
    have H := HA.out
    clear HA
    simp only [impl_areSpans.l0] at H
    by_cases c3 : x10_1 < (l0.length : Int)
    ·rw [if_pos c3] at H
     have c3b0 : decide (x10_1 < (l0.length : Int)) = true := decide_eq_true c3
     clear c3
     by_cases c4 : 0 ≤ x10_1
     ·rw [if_pos c4] at H
      have c4b0 : decide (0 ≤ x10_1) = true := decide_eq_true c4
      clear c4
      by_cases c5 : x10_1 < (l0.length : Int)
      ·rw [if_pos c5] at H
       have c5b0 : decide (x10_1 < (l0.length : Int)) = true := decide_eq_true c5
       clear c5
       obtain ⟨t103, A6, H⟩ := sN H
       by_cases c7 : t103 = true
       ·subst c7
        replace H := sY H
        by_cases c8 : x10_1 > 0
        ·rw [if_pos c8] at H
         have c8b0 : decide (0 < x10_1) = true := decide_eq_true c8
         clear c8
         obtain ⟨ji9, hji9⟩ : ∃ j_ : Int, (wrap64 (x10_1 - 1)) = j_ := ⟨_, rfl⟩
         replace H : (if 0 ≤ (ji9) then (if (ji9) < (l0.length : Int) then (if ((rd_T59 l0 x10_1).f0) ≤ ((rd_T59 l0 (ji9)).f1) then (some false) else (impl_areSpans.l0 k1 l0 l0 (l0.length : Int) (wrap64 (x10_1 + 1)))) else (none)) else (none)) = some r := by first | (rw [hji9] at H; exact H) | (simp only [hji9] at H ⊢; exact H)
         (try rw [hji9] at A6)
         have hji9w : (IntKind.i64.wrap (x10_1 - 1)) = ji9 := (i64_w _).trans hji9
         by_cases c10 : 0 ≤ (ji9)
         ·rw [if_pos c10] at H
          have c10b0 : decide (0 ≤ (ji9)) = true := decide_eq_true c10
          clear c10
          by_cases c11 : (ji9) < (l0.length : Int)
          ·rw [if_pos c11] at H
           have c11b0 : decide ((ji9) < (l0.length : Int)) = true := decide_eq_true c11
           clear c11
           by_cases c12 : ((rd_T59 l0 x10_1).f0) ≤ ((rd_T59 l0 (ji9)).f1)
           ·rw [if_pos c12] at H
            have c12b0 : decide (((rd_T59 l0 x10_1).f0) ≤ ((rd_T59 l0 (ji9)).f1)) = true := decide_eq_true c12
            clear c12
            obtain rfl := Option.some.inj H
            have p101 : 0 ≤ (x10_1 : Int) := of_decide_eq_true (by first | (with_reducible assumption) | assumption)
            have q101 : x10_1 < (l0.length : Int) := of_decide_eq_true (by first | (with_reducible assumption) | assumption)
            obtain ⟨ad101, e101, hx101_0, hx101_1⟩ := at_T59 HR0.out x10_1 p101 q101
            cases e101
            replace hx101_0 := (HB.out.cell (World.block_lt_of_cell? w _ hx101_0)).trans hx101_0
            replace hx101_1 := (HB.out.cell (World.block_lt_of_cell? w _ hx101_1)).trans hx101_1
            replace p101 := eq_true p101
            replace q101 := eq_true q101
            try go_wp2_with (first | ((with_reducible refine gate_dst (N := 4) rfl ?_); refine box_event ?hg (N := 4) ?hd (cs := #[.int .i64 0, .int .i64 0]) (t := 59) ?hr ?_; (case hd => rfl); (case hg => rfl); (case hr => first | (go_simp; done) | (go_simp; rfl)); intro gb102 hg w13 hbox hb; have BK102 := sA (hbox); have GW102 := sA ((by rw [hg]; exact (below_size sH) : w.heap.size ≤ gb102)); have GE102 := sA ((by rw [hg]; exact (below_size sH) : w.heap.size ≤ gb102)); replace HB := sA (below_step sH hb); clear hb hbox hg; obtain ⟨_, _, _, _⟩ := sD2 BK102))
            have n0_ : Aside0 (((w13.setCell ⟨gb102, 0, none⟩ (.int .i64 ((rd_T59 l0 x10_1).f0))).setCell ⟨gb102, 1, none⟩ (.int .i64 ((rd_T59 l0 x10_1).f1))).heap[gb102]? = some (.cells #[.int .i64 ((rd_T59 l0 x10_1).f0), .int .i64 ((rd_T59 l0 x10_1).f1)] 59 (0, 0))) := ⟨by (with_reducible repeat first | apply blk_drewN | apply blk_drew | apply blk_alloc); refine blk_put (cs := #[.int .i64 ((rd_T59 l0 x10_1).f0), .int .i64 0]) ?_ 1 _ rfl; (with_reducible repeat first | apply blk_drewN | apply blk_drew | apply blk_alloc); refine blk_put (cs := #[.int .i64 0, .int .i64 0]) ?_ 0 _ rfl; (with_reducible repeat first | apply blk_drewN | apply blk_drew | apply blk_alloc); exact BK102.out⟩
            have n1_ : Aside0 (Below w.heap.size w ((w13.setCell ⟨gb102, 0, none⟩ (.int .i64 ((rd_T59 l0 x10_1).f0))).setCell ⟨gb102, 1, none⟩ (.int .i64 ((rd_T59 l0 x10_1).f1)))) := ⟨sH⟩
            (try clear BK102)
            (try clear HB)
            generalize ((w13.setCell ⟨gb102, 0, none⟩ (.int .i64 ((rd_T59 l0 x10_1).f0))).setCell ⟨gb102, 1, none⟩ (.int .i64 ((rd_T59 l0 x10_1).f1))) = w15 at n0_ n1_ ⊢
            have BK102 := n0_
            have HB := n1_
            clear n0_ n1_
            replace BK102 := sA (blk_drew BK102.out)
            replace HB := sA (below_drew1 HB.out)
            have p104 : 0 ≤ ((ji9) : Int) := of_decide_eq_true (by first | (with_reducible assumption) | assumption)
            have q104 : (ji9) < (l0.length : Int) := of_decide_eq_true (by first | (with_reducible assumption) | assumption)
            obtain ⟨ad104, e104, hx104_0, hx104_1⟩ := at_T59 HR0.out (ji9) p104 q104
            have hw104_1 := hx104_1
            have hw104_0 := hx104_0
            obtain rfl : ad101 = ad104 := (by injection e104)
            replace hx104_0 := (HB.out.cell (World.block_lt_of_cell? w _ hx104_0)).trans hx104_0
            replace hx104_1 := (HB.out.cell (World.block_lt_of_cell? w _ hx104_1)).trans hx104_1
            replace p104 := eq_true p104
            replace q104 := eq_true q104
            refine start_ (n := 18) (S := fun w' => w'.cell? ⟨gb102, 0, none⟩ = some (.int .i64 ((rd_T59 l0 x10_1).f0)) ∧ w'.cell? ⟨gb102, 1, none⟩ = some (.int .i64 ((rd_T59 l0 x10_1).f1)) ∧ w'.cell? (ad101.add (((ji9)).toNat * 2)) = some (.int .i64 ((rd_T59 l0 (ji9)).f0)) ∧ w'.cell? ⟨(ad101.add (((ji9)).toNat * 2)).block, (ad101.add (((ji9)).toNat * 2)).off + 1, none⟩ = some (.int .i64 ((rd_T59 l0 (ji9)).f1))) (ds := []) (sM 18 0) (by kernel_rfl) rfl rfl ⟨sC BK102 0 rfl, sC BK102 1 rfl, ((HB.out.cell (World.block_lt_of_cell? w _ hw104_0)).trans hw104_0), ((HB.out.cell (World.block_lt_of_cell? w _ hw104_1)).trans hw104_1)⟩ (fun hHeld => ?_); refine with_tabW impl_areSpans.tab6 impl_areSpans.bits6 (fun HT_ HW_ => ?_)
            generalize w15.drew = w16 at BK102 HB hx104_0 hx104_1 hHeld ⊢
            refine sT (v := ?_) (a' := ?_) 0 15 (sM 18 1) HT_ HW_ hHeld ?_ ?_ ?_; rotate_left 2
            ·rintro w' ⟨s0, s1, s2, s3⟩; go_simp; with_reducible rfl
            ·simp only [Act.put, sI, sZ, sV, i64_w, i32_w]; rfl
            refine one_ (i := 1) (N := some 16) (sM 18 3) rfl rfl (one_of HT_.out (by kernel_rfl)) (by decide) (fun K hK => ?_)
            refine goes_ Try.func80 (by kernel_rfl) rfl #[.agg #[.int .i64 ((rd_T59 l0 x10_1).f0), .int .i64 ((rd_T59 l0 x10_1).f1)]] (by rfl) rfl rfl sG ?_
            with_reducible refine (impl_isSpan.calls ((rd_T59 l0 x10_1).f0) ((rd_T59 l0 x10_1).f1) true _ A6.out).mono ?_
            rintro e w17 ⟨rfl, hb⟩
            refine ⟨_, rfl, ?_⟩
            replace BK102 := sJ BK102 hb
            replace HB := sA (below_step sH hb)
            (try clear hb)
            (try clear hb2)
            (try clear hk)
            (try clear hi)
            refine hK.out _ _ ⟨sC BK102 0 rfl, sC BK102 1 rfl, ((HB.out.cell (World.block_lt_of_cell? w _ hw104_0)).trans hw104_0), ((HB.out.cell (World.block_lt_of_cell? w _ hw104_1)).trans hw104_1)⟩ (fun hHeld => ?_)
            clear hK K
            refine norm_ (a' := ?_) ?_ ?_
            rotate_left
            ·show Act.put _ (some 16) _ = _
             simp only [Act.put, sI, sZ, sV, i64_w, i32_w]
             rfl
            refine sP (v := ?_) (a' := ?_) 2 17 (sM 18 7) HT_ ?_ ?_ ?_; rotate_left 2
            ·intro w'; go_simp; with_reducible rfl
            ·simp only [Act.put, sI, sZ, sV, i64_w, i32_w]; rfl
            refine sP (v := ?_) (a' := ?_) 3 18 (sM 18 15) HT_ ?_ ?_ ?_; rotate_left 2
            ·intro w'; go_simp; with_reducible rfl
            ·simp only [Act.put, sI, sZ, sV, i64_w, i32_w]; rfl
            refine sP (v := ?_) (a' := ?_) 4 19 (sM 18 31) HT_ ?_ ?_ ?_; rotate_left 2
            ·intro w'; go_simp; with_reducible rfl
            ·simp only [Act.put, sI, sZ, sV, i64_w, i32_w]; rfl
            refine sP (v := ?_) (a' := ?_) 5 20 (sM 18 63) HT_ ?_ ?_ ?_; rotate_left 2
            ·intro w'; go_simp; with_reducible rfl
            ·simp only [Act.put, sI, sZ, sV, i64_w, i32_w]; rfl
            refine sP (v := ?_) (a' := ?_) 6 21 (sM 18 127) HT_ ?_ ?_ ?_; rotate_left 2
            ·intro w'; go_simp; with_reducible rfl
            ·simp only [Act.put, sI, sZ, sV, i64_w, i32_w]; rfl
            refine sP (v := ?_) (a' := ?_) 7 22 (sM 18 255) HT_ ?_ ?_ ?_; rotate_left 2
            ·intro w'; go_simp; with_reducible rfl
            ·simp only [Act.put, sI, sZ, sV, i64_w, i32_w]; rfl
            refine sP (v := ?_) (a' := ?_) 9 24 (sM 18 767) HT_ ?_ ?_ ?_; rotate_left 2
            ·intro w'; go_simp; with_reducible rfl
            ·simp only [Act.put, sI, sZ, sV, i64_w, i32_w]; rfl
            refine sP (v := ?_) (a' := ?_) 10 25 (sM 18 1791) HT_ ?_ ?_ ?_; rotate_left 2
            ·intro w'; go_simp; with_reducible rfl
            ·simp only [Act.put, sI, sZ, sV, i64_w, i32_w]; rfl
            refine sP (v := ?_) (a' := ?_) 11 26 (sM 18 3839) HT_ ?_ ?_ ?_; rotate_left 2
            ·intro w'; go_simp; with_reducible rfl
            ·simp only [Act.put, sI, sZ, sV, i64_w, i32_w]; rfl
            refine sP (v := ?_) (a' := ?_) 12 27 (sM 18 7935) HT_ ?_ ?_ ?_; rotate_left 2
            ·intro w'; go_simp; with_reducible rfl
            ·simp only [Act.put, sI, sZ, sV, i64_w, i32_w]; rfl
            refine sP (v := ?_) (a' := ?_) 13 28 (sM 18 16127) HT_ ?_ ?_ ?_; rotate_left 2
            ·intro w'; go_simp; with_reducible rfl
            ·simp only [Act.put, sI, sZ, sV, i64_w, i32_w]; rfl
            refine sT (v := ?_) (a' := ?_) 8 23 (sM 18 16383) HT_ HW_ hHeld ?_ ?_ ?_; rotate_left 2
            ·rintro w' ⟨s0, s1, s2, s3⟩; go_simp; with_reducible rfl
            ·simp only [Act.put, sI, sZ, sV, i64_w, i32_w]; rfl
            refine sT (v := ?_) (a' := ?_) 14 29 (sM 18 32767) HT_ HW_ hHeld ?_ ?_ ?_; rotate_left 2
            ·rintro w' ⟨s0, s1, s2, s3⟩; go_simp; with_reducible rfl
            ·simp only [Act.put, sI, sZ, sV, i64_w, i32_w]; rfl
            refine sP (v := ?_) (a' := ?_) 15 30 (sM 18 65535) HT_ ?_ ?_ ?_; rotate_left 2
            ·intro w'; go_simp; with_reducible rfl
            ·simp only [Act.put, sI, sZ, sV, i64_w, i32_w]; rfl
            refine sP (v := ?_) (a' := ?_) 16 31 (sM 18 131071) HT_ ?_ ?_ ?_; rotate_left 2
            ·intro w'; go_simp; with_reducible rfl
            ·simp only [Act.put, sI, sZ, sV, i64_w, i32_w]; rfl
            refine sP (v := ?_) (a' := ?_) 17 32 (sM 18 262143) HT_ ?_ ?_ ?_; rotate_left 2
            ·intro w'; go_simp; with_reducible rfl
            ·simp only [Act.put, sI, sZ, sV, i64_w, i32_w]; rfl
            refine done_ (done_of HT_.out (by kernel_rfl)) ?_
            try go_wp2
            go_ret
            exact ⟨by first | rfl | (simp [errW_none, errW_some] <;> rfl) | (simp only [← hji9]; first | rfl | (simp [errW_none, errW_some] <;> rfl)) | (simp [*, errW_none, errW_some] <;> rfl), by repeat (first | (with_reducible first | exact HB.out | apply sLA | apply sLN | apply sLD | refine sLS ?_ GE102.out) | exact HB.out)⟩
           ·rw [if_neg c12] at H
            have c12b0 : decide (((rd_T59 l0 x10_1).f0) ≤ ((rd_T59 l0 (ji9)).f1)) = false := decide_eq_false c12
            clear c12
            have H' := sA H
            clear H
            have p101 : 0 ≤ (x10_1 : Int) := of_decide_eq_true (by first | (with_reducible assumption) | assumption)
            have q101 : x10_1 < (l0.length : Int) := of_decide_eq_true (by first | (with_reducible assumption) | assumption)
            obtain ⟨ad101, e101, hx101_0, hx101_1⟩ := at_T59 HR0.out x10_1 p101 q101
            cases e101
            replace hx101_0 := (HB.out.cell (World.block_lt_of_cell? w _ hx101_0)).trans hx101_0
            replace hx101_1 := (HB.out.cell (World.block_lt_of_cell? w _ hx101_1)).trans hx101_1
            replace p101 := eq_true p101
            replace q101 := eq_true q101
            try go_wp2_with (first | ((with_reducible refine gate_dst (N := 4) rfl ?_); refine box_event ?hg (N := 4) ?hd (cs := #[.int .i64 0, .int .i64 0]) (t := 59) ?hr ?_; (case hd => rfl); (case hg => rfl); (case hr => first | (go_simp; done) | (go_simp; rfl)); intro gb102 hg w18 hbox hb; have BK102 := sA (hbox); have GW102 := sA ((by rw [hg]; exact (below_size sH) : w.heap.size ≤ gb102)); have GE102 := sA ((by rw [hg]; exact (below_size sH) : w.heap.size ≤ gb102)); replace HB := sA (below_step sH hb); clear hb hbox hg; obtain ⟨_, _, _, _⟩ := sD2 BK102))
            have n0_ : Aside0 (((w18.setCell ⟨gb102, 0, none⟩ (.int .i64 ((rd_T59 l0 x10_1).f0))).setCell ⟨gb102, 1, none⟩ (.int .i64 ((rd_T59 l0 x10_1).f1))).heap[gb102]? = some (.cells #[.int .i64 ((rd_T59 l0 x10_1).f0), .int .i64 ((rd_T59 l0 x10_1).f1)] 59 (0, 0))) := ⟨by (with_reducible repeat first | apply blk_drewN | apply blk_drew | apply blk_alloc); refine blk_put (cs := #[.int .i64 ((rd_T59 l0 x10_1).f0), .int .i64 0]) ?_ 1 _ rfl; (with_reducible repeat first | apply blk_drewN | apply blk_drew | apply blk_alloc); refine blk_put (cs := #[.int .i64 0, .int .i64 0]) ?_ 0 _ rfl; (with_reducible repeat first | apply blk_drewN | apply blk_drew | apply blk_alloc); exact BK102.out⟩
            have n1_ : Aside0 (Below w.heap.size w ((w18.setCell ⟨gb102, 0, none⟩ (.int .i64 ((rd_T59 l0 x10_1).f0))).setCell ⟨gb102, 1, none⟩ (.int .i64 ((rd_T59 l0 x10_1).f1)))) := ⟨sH⟩
            (try clear BK102)
            (try clear HB)
            generalize ((w18.setCell ⟨gb102, 0, none⟩ (.int .i64 ((rd_T59 l0 x10_1).f0))).setCell ⟨gb102, 1, none⟩ (.int .i64 ((rd_T59 l0 x10_1).f1))) = w20 at n0_ n1_ ⊢
            have BK102 := n0_
            have HB := n1_
            clear n0_ n1_
            replace BK102 := sA (blk_drew BK102.out)
            replace HB := sA (below_drew1 HB.out)
            have p104 : 0 ≤ ((ji9) : Int) := of_decide_eq_true (by first | (with_reducible assumption) | assumption)
            have q104 : (ji9) < (l0.length : Int) := of_decide_eq_true (by first | (with_reducible assumption) | assumption)
            obtain ⟨ad104, e104, hx104_0, hx104_1⟩ := at_T59 HR0.out (ji9) p104 q104
            have hw104_1 := hx104_1
            have hw104_0 := hx104_0
            obtain rfl : ad101 = ad104 := (by injection e104)
            replace hx104_0 := (HB.out.cell (World.block_lt_of_cell? w _ hx104_0)).trans hx104_0
            replace hx104_1 := (HB.out.cell (World.block_lt_of_cell? w _ hx104_1)).trans hx104_1
            replace p104 := eq_true p104
            replace q104 := eq_true q104
            refine start_ (n := 18) (S := fun w' => w'.cell? ⟨gb102, 0, none⟩ = some (.int .i64 ((rd_T59 l0 x10_1).f0)) ∧ w'.cell? ⟨gb102, 1, none⟩ = some (.int .i64 ((rd_T59 l0 x10_1).f1)) ∧ w'.cell? (ad101.add (((ji9)).toNat * 2)) = some (.int .i64 ((rd_T59 l0 (ji9)).f0)) ∧ w'.cell? ⟨(ad101.add (((ji9)).toNat * 2)).block, (ad101.add (((ji9)).toNat * 2)).off + 1, none⟩ = some (.int .i64 ((rd_T59 l0 (ji9)).f1))) (ds := []) (sM 18 0) (by kernel_rfl) rfl rfl ⟨sC BK102 0 rfl, sC BK102 1 rfl, ((HB.out.cell (World.block_lt_of_cell? w _ hw104_0)).trans hw104_0), ((HB.out.cell (World.block_lt_of_cell? w _ hw104_1)).trans hw104_1)⟩ (fun hHeld => ?_); refine with_tabW impl_areSpans.tab6 impl_areSpans.bits6 (fun HT_ HW_ => ?_)
            generalize w20.drew = w21 at BK102 HB hx104_0 hx104_1 hHeld ⊢
            refine sT (v := ?_) (a' := ?_) 0 15 (sM 18 1) HT_ HW_ hHeld ?_ ?_ ?_; rotate_left 2
            ·rintro w' ⟨s0, s1, s2, s3⟩; go_simp; with_reducible rfl
            ·simp only [Act.put, sI, sZ, sV, i64_w, i32_w]; rfl
            refine one_ (i := 1) (N := some 16) (sM 18 3) rfl rfl (one_of HT_.out (by kernel_rfl)) (by decide) (fun K hK => ?_)
            refine goes_ Try.func80 (by kernel_rfl) rfl #[.agg #[.int .i64 ((rd_T59 l0 x10_1).f0), .int .i64 ((rd_T59 l0 x10_1).f1)]] (by rfl) rfl rfl sG ?_
            with_reducible refine (impl_isSpan.calls ((rd_T59 l0 x10_1).f0) ((rd_T59 l0 x10_1).f1) true _ A6.out).mono ?_
            rintro e w22 ⟨rfl, hb⟩
            refine ⟨_, rfl, ?_⟩
            replace BK102 := sJ BK102 hb
            replace HB := sA (below_step sH hb)
            (try clear hb)
            (try clear hb2)
            (try clear hk)
            (try clear hi)
            refine hK.out _ _ ⟨sC BK102 0 rfl, sC BK102 1 rfl, ((HB.out.cell (World.block_lt_of_cell? w _ hw104_0)).trans hw104_0), ((HB.out.cell (World.block_lt_of_cell? w _ hw104_1)).trans hw104_1)⟩ (fun hHeld => ?_)
            clear hK K
            refine norm_ (a' := ?_) ?_ ?_
            rotate_left
            ·show Act.put _ (some 16) _ = _
             simp only [Act.put, sI, sZ, sV, i64_w, i32_w]
             rfl
            refine sP (v := ?_) (a' := ?_) 2 17 (sM 18 7) HT_ ?_ ?_ ?_; rotate_left 2
            ·intro w'; go_simp; with_reducible rfl
            ·simp only [Act.put, sI, sZ, sV, i64_w, i32_w]; rfl
            refine sP (v := ?_) (a' := ?_) 3 18 (sM 18 15) HT_ ?_ ?_ ?_; rotate_left 2
            ·intro w'; go_simp; with_reducible rfl
            ·simp only [Act.put, sI, sZ, sV, i64_w, i32_w]; rfl
            refine sP (v := ?_) (a' := ?_) 4 19 (sM 18 31) HT_ ?_ ?_ ?_; rotate_left 2
            ·intro w'; go_simp; with_reducible rfl
            ·simp only [Act.put, sI, sZ, sV, i64_w, i32_w]; rfl
            refine sP (v := ?_) (a' := ?_) 5 20 (sM 18 63) HT_ ?_ ?_ ?_; rotate_left 2
            ·intro w'; go_simp; with_reducible rfl
            ·simp only [Act.put, sI, sZ, sV, i64_w, i32_w]; rfl
            refine sP (v := ?_) (a' := ?_) 6 21 (sM 18 127) HT_ ?_ ?_ ?_; rotate_left 2
            ·intro w'; go_simp; with_reducible rfl
            ·simp only [Act.put, sI, sZ, sV, i64_w, i32_w]; rfl
            refine sP (v := ?_) (a' := ?_) 7 22 (sM 18 255) HT_ ?_ ?_ ?_; rotate_left 2
            ·intro w'; go_simp; with_reducible rfl
            ·simp only [Act.put, sI, sZ, sV, i64_w, i32_w]; rfl
            refine sP (v := ?_) (a' := ?_) 9 24 (sM 18 767) HT_ ?_ ?_ ?_; rotate_left 2
            ·intro w'; go_simp; with_reducible rfl
            ·simp only [Act.put, sI, sZ, sV, i64_w, i32_w]; rfl
            refine sP (v := ?_) (a' := ?_) 10 25 (sM 18 1791) HT_ ?_ ?_ ?_; rotate_left 2
            ·intro w'; go_simp; with_reducible rfl
            ·simp only [Act.put, sI, sZ, sV, i64_w, i32_w]; rfl
            refine sP (v := ?_) (a' := ?_) 11 26 (sM 18 3839) HT_ ?_ ?_ ?_; rotate_left 2
            ·intro w'; go_simp; with_reducible rfl
            ·simp only [Act.put, sI, sZ, sV, i64_w, i32_w]; rfl
            refine sP (v := ?_) (a' := ?_) 12 27 (sM 18 7935) HT_ ?_ ?_ ?_; rotate_left 2
            ·intro w'; go_simp; with_reducible rfl
            ·simp only [Act.put, sI, sZ, sV, i64_w, i32_w]; rfl
            refine sP (v := ?_) (a' := ?_) 13 28 (sM 18 16127) HT_ ?_ ?_ ?_; rotate_left 2
            ·intro w'; go_simp; with_reducible rfl
            ·simp only [Act.put, sI, sZ, sV, i64_w, i32_w]; rfl
            refine sT (v := ?_) (a' := ?_) 8 23 (sM 18 16383) HT_ HW_ hHeld ?_ ?_ ?_; rotate_left 2
            ·rintro w' ⟨s0, s1, s2, s3⟩; go_simp; with_reducible rfl
            ·simp only [Act.put, sI, sZ, sV, i64_w, i32_w]; rfl
            refine sT (v := ?_) (a' := ?_) 14 29 (sM 18 32767) HT_ HW_ hHeld ?_ ?_ ?_; rotate_left 2
            ·rintro w' ⟨s0, s1, s2, s3⟩; go_simp; with_reducible rfl
            ·simp only [Act.put, sI, sZ, sV, i64_w, i32_w]; rfl
            refine sP (v := ?_) (a' := ?_) 15 30 (sM 18 65535) HT_ ?_ ?_ ?_; rotate_left 2
            ·intro w'; go_simp; with_reducible rfl
            ·simp only [Act.put, sI, sZ, sV, i64_w, i32_w]; rfl
            refine sP (v := ?_) (a' := ?_) 16 31 (sM 18 131071) HT_ ?_ ?_ ?_; rotate_left 2
            ·intro w'; go_simp; with_reducible rfl
            ·simp only [Act.put, sI, sZ, sV, i64_w, i32_w]; rfl
            refine sP (v := ?_) (a' := ?_) 17 32 (sM 18 262143) HT_ ?_ ?_ ?_; rotate_left 2
            ·intro w'; go_simp; with_reducible rfl
            ·simp only [Act.put, sI, sZ, sV, i64_w, i32_w]; rfl
            refine done_ (done_of HT_.out (by kernel_rfl)) ?_
            try go_wp2
            go_roundg k1
            case measure => have := HK1.out; omega
            case rel => exact ⟨(wrap64 (x10_1 + 1)), (by first | rfl | (simp; done) | (simp [*]; done)), H', ⟨by have := HK1.out; omega⟩, ⟨sH⟩⟩
          ·rw [if_neg c11] at H
           exact absurd H (by simp)
         ·rw [if_neg c10] at H
          exact absurd H (by simp)
        ·rw [if_neg c8] at H
         have c8b0 : decide (0 < x10_1) = false := decide_eq_false c8
         clear c8
         have H' := sA H
         clear H
         have p101 : 0 ≤ (x10_1 : Int) := of_decide_eq_true (by first | (with_reducible assumption) | assumption)
         have q101 : x10_1 < (l0.length : Int) := of_decide_eq_true (by first | (with_reducible assumption) | assumption)
         obtain ⟨ad101, e101, hx101_0, hx101_1⟩ := at_T59 HR0.out x10_1 p101 q101
         cases e101
         replace hx101_0 := (HB.out.cell (World.block_lt_of_cell? w _ hx101_0)).trans hx101_0
         replace hx101_1 := (HB.out.cell (World.block_lt_of_cell? w _ hx101_1)).trans hx101_1
         replace p101 := eq_true p101
         replace q101 := eq_true q101
         try go_wp2_with (first | ((with_reducible refine gate_dst (N := 4) rfl ?_); refine box_event ?hg (N := 4) ?hd (cs := #[.int .i64 0, .int .i64 0]) (t := 59) ?hr ?_; (case hd => rfl); (case hg => rfl); (case hr => first | (go_simp; done) | (go_simp; rfl)); intro gb102 hg w23 hbox hb; have BK102 := sA (hbox); have GW102 := sA ((by rw [hg]; exact (below_size sH) : w.heap.size ≤ gb102)); have GE102 := sA ((by rw [hg]; exact (below_size sH) : w.heap.size ≤ gb102)); replace HB := sA (below_step sH hb); clear hb hbox hg; obtain ⟨_, _, _, _⟩ := sD2 BK102))
         have n0_ : Aside0 (((w23.setCell ⟨gb102, 0, none⟩ (.int .i64 ((rd_T59 l0 x10_1).f0))).setCell ⟨gb102, 1, none⟩ (.int .i64 ((rd_T59 l0 x10_1).f1))).heap[gb102]? = some (.cells #[.int .i64 ((rd_T59 l0 x10_1).f0), .int .i64 ((rd_T59 l0 x10_1).f1)] 59 (0, 0))) := ⟨by (with_reducible repeat first | apply blk_drewN | apply blk_drew | apply blk_alloc); refine blk_put (cs := #[.int .i64 ((rd_T59 l0 x10_1).f0), .int .i64 0]) ?_ 1 _ rfl; (with_reducible repeat first | apply blk_drewN | apply blk_drew | apply blk_alloc); refine blk_put (cs := #[.int .i64 0, .int .i64 0]) ?_ 0 _ rfl; (with_reducible repeat first | apply blk_drewN | apply blk_drew | apply blk_alloc); exact BK102.out⟩
         have n1_ : Aside0 (Below w.heap.size w ((w23.setCell ⟨gb102, 0, none⟩ (.int .i64 ((rd_T59 l0 x10_1).f0))).setCell ⟨gb102, 1, none⟩ (.int .i64 ((rd_T59 l0 x10_1).f1)))) := ⟨sH⟩
         (try clear BK102)
         (try clear HB)
         generalize ((w23.setCell ⟨gb102, 0, none⟩ (.int .i64 ((rd_T59 l0 x10_1).f0))).setCell ⟨gb102, 1, none⟩ (.int .i64 ((rd_T59 l0 x10_1).f1))) = w25 at n0_ n1_ ⊢
         have BK102 := n0_
         have HB := n1_
         clear n0_ n1_
         replace BK102 := sA (blk_drew BK102.out)
         replace HB := sA (below_drew1 HB.out)
         refine start_ (n := 18) (S := fun w' => w'.cell? ⟨gb102, 0, none⟩ = some (.int .i64 ((rd_T59 l0 x10_1).f0)) ∧ w'.cell? ⟨gb102, 1, none⟩ = some (.int .i64 ((rd_T59 l0 x10_1).f1))) (ds := []) (sM 18 0) (by kernel_rfl) rfl rfl ⟨sC BK102 0 rfl, sC BK102 1 rfl⟩ (fun hHeld => ?_); refine with_tabW impl_areSpans.tab6 impl_areSpans.bits6 (fun HT_ HW_ => ?_)
         generalize w25.drew = w26 at BK102 HB hHeld ⊢
         refine sT (v := ?_) (a' := ?_) 0 15 (sM 18 1) HT_ HW_ hHeld ?_ ?_ ?_; rotate_left 2
         ·rintro w' ⟨s0, s1⟩; go_simp; with_reducible rfl
         ·simp only [Act.put, sI, sZ, sV, i64_w, i32_w]; rfl
         refine one_ (i := 1) (N := some 16) (sM 18 3) rfl rfl (one_of HT_.out (by kernel_rfl)) (by decide) (fun K hK => ?_)
         refine goes_ Try.func80 (by kernel_rfl) rfl #[.agg #[.int .i64 ((rd_T59 l0 x10_1).f0), .int .i64 ((rd_T59 l0 x10_1).f1)]] (by rfl) rfl rfl sG ?_
         with_reducible refine (impl_isSpan.calls ((rd_T59 l0 x10_1).f0) ((rd_T59 l0 x10_1).f1) true _ A6.out).mono ?_
         rintro e w27 ⟨rfl, hb⟩
         refine ⟨_, rfl, ?_⟩
         replace BK102 := sJ BK102 hb
         replace HB := sA (below_step sH hb)
         (try clear hb)
         (try clear hb2)
         (try clear hk)
         (try clear hi)
         refine hK.out _ _ ⟨sC BK102 0 rfl, sC BK102 1 rfl⟩ (fun hHeld => ?_)
         clear hK K
         refine norm_ (a' := ?_) ?_ ?_
         rotate_left
         ·show Act.put _ (some 16) _ = _
          simp only [Act.put, sI, sZ, sV, i64_w, i32_w]
          rfl
         refine sP (v := ?_) (a' := ?_) 2 17 (sM 18 7) HT_ ?_ ?_ ?_; rotate_left 2
         ·intro w'; go_simp; with_reducible rfl
         ·simp only [Act.put, sI, sZ, sV, i64_w, i32_w]; rfl
         refine sP (v := ?_) (a' := ?_) 3 18 (sM 18 15) HT_ ?_ ?_ ?_; rotate_left 2
         ·intro w'; go_simp; with_reducible rfl
         ·simp only [Act.put, sI, sZ, sV, i64_w, i32_w]; rfl
         refine sP (v := ?_) (a' := ?_) 4 19 (sM 18 31) HT_ ?_ ?_ ?_; rotate_left 2
         ·intro w'; go_simp; with_reducible rfl
         ·simp only [Act.put, sI, sZ, sV, i64_w, i32_w]; rfl
         refine sP (v := ?_) (a' := ?_) 5 20 (sM 18 63) HT_ ?_ ?_ ?_; rotate_left 2
         ·intro w'; go_simp; with_reducible rfl
         ·simp only [Act.put, sI, sZ, sV, i64_w, i32_w]; rfl
         refine sP (v := ?_) (a' := ?_) 6 21 (sM 18 127) HT_ ?_ ?_ ?_; rotate_left 2
         ·intro w'; go_simp; with_reducible rfl
         ·simp only [Act.put, sI, sZ, sV, i64_w, i32_w]; rfl
         refine pure_ (i := 7) (N := some 22) (v := undef) (a' := ?_) (sM 18 255) rfl rfl (any_of HT_.out (by kernel_rfl)) (fun _ _ _ h => h) (Or.inr ⟨by rfl, rfl⟩) ?_ ?_
         rotate_left
         ·simp only [Act.put, sI, sZ, sV, i64_w, i32_w]
          rfl
         refine pure_ (i := 8) (N := some 23) (v := undef) (a' := ?_) (sM 18 511) rfl rfl (any_of HT_.out (by kernel_rfl)) (fun _ _ _ h => h) (Or.inr ⟨by rfl, rfl⟩) ?_ ?_
         rotate_left
         ·simp only [Act.put, sI, sZ, sV, i64_w, i32_w]
          rfl
         refine pure_ (i := 9) (N := some 24) (v := undef) (a' := ?_) (sM 18 1023) rfl rfl (any_of HT_.out (by kernel_rfl)) (fun _ _ _ h => h) (Or.inr ⟨by rfl, rfl⟩) ?_ ?_
         rotate_left
         ·simp only [Act.put, sI, sZ, sV, i64_w, i32_w]
          rfl
         refine pure_ (i := 10) (N := some 25) (v := undef) (a' := ?_) (sM 18 2047) rfl rfl (any_of HT_.out (by kernel_rfl)) (fun _ _ _ h => h) (Or.inr ⟨by rfl, rfl⟩) ?_ ?_
         rotate_left
         ·simp only [Act.put, sI, sZ, sV, i64_w, i32_w]
          rfl
         refine pure_ (i := 11) (N := some 26) (v := undef) (a' := ?_) (sM 18 4095) rfl rfl (any_of HT_.out (by kernel_rfl)) (fun _ _ _ h => h) (Or.inr ⟨by rfl, rfl⟩) ?_ ?_
         rotate_left
         ·simp only [Act.put, sI, sZ, sV, i64_w, i32_w]
          rfl
         refine pure_ (i := 12) (N := some 27) (v := undef) (a' := ?_) (sM 18 8191) rfl rfl (any_of HT_.out (by kernel_rfl)) (fun _ _ _ h => h) (Or.inr ⟨by rfl, rfl⟩) ?_ ?_
         rotate_left
         ·simp only [Act.put, sI, sZ, sV, i64_w, i32_w]
          rfl
         refine pure_ (i := 13) (N := some 28) (v := undef) (a' := ?_) (sM 18 16383) rfl rfl (any_of HT_.out (by kernel_rfl)) (fun _ _ _ h => h) (Or.inr ⟨by rfl, rfl⟩) ?_ ?_
         rotate_left
         ·simp only [Act.put, sI, sZ, sV, i64_w, i32_w]
          rfl
         refine pure_ (i := 14) (N := some 29) (v := undef) (a' := ?_) (sM 18 32767) rfl rfl (any_of HT_.out (by kernel_rfl)) (fun _ _ _ h => h) (Or.inr ⟨by rfl, rfl⟩) ?_ ?_
         rotate_left
         ·simp only [Act.put, sI, sZ, sV, i64_w, i32_w]
          rfl
         refine pure_ (i := 15) (N := some 30) (v := undef) (a' := ?_) (sM 18 65535) rfl rfl (any_of HT_.out (by kernel_rfl)) (fun _ _ _ h => h) (Or.inr ⟨by rfl, rfl⟩) ?_ ?_
         rotate_left
         ·simp only [Act.put, sI, sZ, sV, i64_w, i32_w]
          rfl
         refine sP (v := ?_) (a' := ?_) 16 31 (sM 18 131071) HT_ ?_ ?_ ?_; rotate_left 2
         ·intro w'; go_simp; with_reducible rfl
         ·simp only [Act.put, sI, sZ, sV, i64_w, i32_w]; rfl
         refine sP (v := ?_) (a' := ?_) 17 32 (sM 18 262143) HT_ ?_ ?_ ?_; rotate_left 2
         ·intro w'; go_simp; with_reducible rfl
         ·simp only [Act.put, sI, sZ, sV, i64_w, i32_w]; rfl
         refine done_ (done_of HT_.out (by kernel_rfl)) ?_
         try go_wp2
         go_roundg k1
         case measure => have := HK1.out; omega
         case rel => exact ⟨(wrap64 (x10_1 + 1)), (by first | rfl | (simp; done) | (simp [*]; done)), H', ⟨by have := HK1.out; omega⟩, ⟨sH⟩⟩
       ·replace c7 := Bool.eq_false_iff.mpr c7
        subst c7
        replace H := sX H
        obtain rfl := Option.some.inj H
        have p101 : 0 ≤ (x10_1 : Int) := of_decide_eq_true (by first | (with_reducible assumption) | assumption)
        have q101 : x10_1 < (l0.length : Int) := of_decide_eq_true (by first | (with_reducible assumption) | assumption)
        obtain ⟨ad101, e101, hx101_0, hx101_1⟩ := at_T59 HR0.out x10_1 p101 q101
        cases e101
        replace hx101_0 := (HB.out.cell (World.block_lt_of_cell? w _ hx101_0)).trans hx101_0
        replace hx101_1 := (HB.out.cell (World.block_lt_of_cell? w _ hx101_1)).trans hx101_1
        replace p101 := eq_true p101
        replace q101 := eq_true q101
        try go_wp2_with (first | ((with_reducible refine gate_dst (N := 4) rfl ?_); refine box_event ?hg (N := 4) ?hd (cs := #[.int .i64 0, .int .i64 0]) (t := 59) ?hr ?_; (case hd => rfl); (case hg => rfl); (case hr => first | (go_simp; done) | (go_simp; rfl)); intro gb102 hg w28 hbox hb; have BK102 := sA (hbox); have GW102 := sA ((by rw [hg]; exact (below_size sH) : w.heap.size ≤ gb102)); have GE102 := sA ((by rw [hg]; exact (below_size sH) : w.heap.size ≤ gb102)); replace HB := sA (below_step sH hb); clear hb hbox hg; obtain ⟨_, _, _, _⟩ := sD2 BK102))
        have n0_ : Aside0 (((w28.setCell ⟨gb102, 0, none⟩ (.int .i64 ((rd_T59 l0 x10_1).f0))).setCell ⟨gb102, 1, none⟩ (.int .i64 ((rd_T59 l0 x10_1).f1))).heap[gb102]? = some (.cells #[.int .i64 ((rd_T59 l0 x10_1).f0), .int .i64 ((rd_T59 l0 x10_1).f1)] 59 (0, 0))) := ⟨by (with_reducible repeat first | apply blk_drewN | apply blk_drew | apply blk_alloc); refine blk_put (cs := #[.int .i64 ((rd_T59 l0 x10_1).f0), .int .i64 0]) ?_ 1 _ rfl; (with_reducible repeat first | apply blk_drewN | apply blk_drew | apply blk_alloc); refine blk_put (cs := #[.int .i64 0, .int .i64 0]) ?_ 0 _ rfl; (with_reducible repeat first | apply blk_drewN | apply blk_drew | apply blk_alloc); exact BK102.out⟩
        have n1_ : Aside0 (Below w.heap.size w ((w28.setCell ⟨gb102, 0, none⟩ (.int .i64 ((rd_T59 l0 x10_1).f0))).setCell ⟨gb102, 1, none⟩ (.int .i64 ((rd_T59 l0 x10_1).f1)))) := ⟨sH⟩
        (try clear BK102)
        (try clear HB)
        generalize ((w28.setCell ⟨gb102, 0, none⟩ (.int .i64 ((rd_T59 l0 x10_1).f0))).setCell ⟨gb102, 1, none⟩ (.int .i64 ((rd_T59 l0 x10_1).f1))) = w30 at n0_ n1_ ⊢
        have BK102 := n0_
        have HB := n1_
        clear n0_ n1_
        replace BK102 := sA (blk_drew BK102.out)
        replace HB := sA (below_drew1 HB.out)
        refine start_ (n := 18) (S := fun w' => w'.cell? ⟨gb102, 0, none⟩ = some (.int .i64 ((rd_T59 l0 x10_1).f0)) ∧ w'.cell? ⟨gb102, 1, none⟩ = some (.int .i64 ((rd_T59 l0 x10_1).f1))) (ds := []) (sM 18 0) (by kernel_rfl) rfl rfl ⟨sC BK102 0 rfl, sC BK102 1 rfl⟩ (fun hHeld => ?_); refine with_tabW impl_areSpans.tab6 impl_areSpans.bits6 (fun HT_ HW_ => ?_)
        generalize w30.drew = w31 at BK102 HB hHeld ⊢
        refine sT (v := ?_) (a' := ?_) 0 15 (sM 18 1) HT_ HW_ hHeld ?_ ?_ ?_; rotate_left 2
        ·rintro w' ⟨s0, s1⟩; go_simp; with_reducible rfl
        ·simp only [Act.put, sI, sZ, sV, i64_w, i32_w]; rfl
        refine one_ (i := 1) (N := some 16) (sM 18 3) rfl rfl (one_of HT_.out (by kernel_rfl)) (by decide) (fun K hK => ?_)
        refine goes_ Try.func80 (by kernel_rfl) rfl #[.agg #[.int .i64 ((rd_T59 l0 x10_1).f0), .int .i64 ((rd_T59 l0 x10_1).f1)]] (by rfl) rfl rfl sG ?_
        with_reducible refine (impl_isSpan.calls ((rd_T59 l0 x10_1).f0) ((rd_T59 l0 x10_1).f1) false _ A6.out).mono ?_
        rintro e w32 ⟨rfl, hb⟩
        refine ⟨_, rfl, ?_⟩
        replace BK102 := sJ BK102 hb
        replace HB := sA (below_step sH hb)
        (try clear hb)
        (try clear hb2)
        (try clear hk)
        (try clear hi)
        refine hK.out _ _ ⟨sC BK102 0 rfl, sC BK102 1 rfl⟩ (fun hHeld => ?_)
        clear hK K
        refine norm_ (a' := ?_) ?_ ?_
        rotate_left
        ·show Act.put _ (some 16) _ = _
         simp only [Act.put, sI, sZ, sV, i64_w, i32_w]
         rfl
        refine sP (v := ?_) (a' := ?_) 2 17 (sM 18 7) HT_ ?_ ?_ ?_; rotate_left 2
        ·intro w'; go_simp; with_reducible rfl
        ·simp only [Act.put, sI, sZ, sV, i64_w, i32_w]; rfl
        refine sP (v := ?_) (a' := ?_) 3 18 (sM 18 15) HT_ ?_ ?_ ?_; rotate_left 2
        ·intro w'; go_simp; with_reducible rfl
        ·simp only [Act.put, sI, sZ, sV, i64_w, i32_w]; rfl
        refine pure_ (i := 4) (N := some 19) (v := undef) (a' := ?_) (sM 18 31) rfl rfl (any_of HT_.out (by kernel_rfl)) (fun _ _ _ h => h) (Or.inr ⟨by rfl, rfl⟩) ?_ ?_
        rotate_left
        ·simp only [Act.put, sI, sZ, sV, i64_w, i32_w]
         rfl
        refine pure_ (i := 5) (N := some 20) (v := undef) (a' := ?_) (sM 18 63) rfl rfl (any_of HT_.out (by kernel_rfl)) (fun _ _ _ h => h) (Or.inr ⟨by rfl, rfl⟩) ?_ ?_
        rotate_left
        ·simp only [Act.put, sI, sZ, sV, i64_w, i32_w]
         rfl
        refine pure_ (i := 6) (N := some 21) (v := undef) (a' := ?_) (sM 18 127) rfl rfl (any_of HT_.out (by kernel_rfl)) (fun _ _ _ h => h) (Or.inr ⟨by rfl, rfl⟩) ?_ ?_
        rotate_left
        ·simp only [Act.put, sI, sZ, sV, i64_w, i32_w]
         rfl
        refine pure_ (i := 7) (N := some 22) (v := undef) (a' := ?_) (sM 18 255) rfl rfl (any_of HT_.out (by kernel_rfl)) (fun _ _ _ h => h) (Or.inr ⟨by rfl, rfl⟩) ?_ ?_
        rotate_left
        ·simp only [Act.put, sI, sZ, sV, i64_w, i32_w]
         rfl
        refine pure_ (i := 8) (N := some 23) (v := undef) (a' := ?_) (sM 18 511) rfl rfl (any_of HT_.out (by kernel_rfl)) (fun _ _ _ h => h) (Or.inr ⟨by rfl, rfl⟩) ?_ ?_
        rotate_left
        ·simp only [Act.put, sI, sZ, sV, i64_w, i32_w]
         rfl
        refine pure_ (i := 9) (N := some 24) (v := undef) (a' := ?_) (sM 18 1023) rfl rfl (any_of HT_.out (by kernel_rfl)) (fun _ _ _ h => h) (Or.inr ⟨by rfl, rfl⟩) ?_ ?_
        rotate_left
        ·simp only [Act.put, sI, sZ, sV, i64_w, i32_w]
         rfl
        refine pure_ (i := 10) (N := some 25) (v := undef) (a' := ?_) (sM 18 2047) rfl rfl (any_of HT_.out (by kernel_rfl)) (fun _ _ _ h => h) (Or.inr ⟨by rfl, rfl⟩) ?_ ?_
        rotate_left
        ·simp only [Act.put, sI, sZ, sV, i64_w, i32_w]
         rfl
        refine pure_ (i := 11) (N := some 26) (v := undef) (a' := ?_) (sM 18 4095) rfl rfl (any_of HT_.out (by kernel_rfl)) (fun _ _ _ h => h) (Or.inr ⟨by rfl, rfl⟩) ?_ ?_
        rotate_left
        ·simp only [Act.put, sI, sZ, sV, i64_w, i32_w]
         rfl
        refine pure_ (i := 12) (N := some 27) (v := undef) (a' := ?_) (sM 18 8191) rfl rfl (any_of HT_.out (by kernel_rfl)) (fun _ _ _ h => h) (Or.inr ⟨by rfl, rfl⟩) ?_ ?_
        rotate_left
        ·simp only [Act.put, sI, sZ, sV, i64_w, i32_w]
         rfl
        refine pure_ (i := 13) (N := some 28) (v := undef) (a' := ?_) (sM 18 16383) rfl rfl (any_of HT_.out (by kernel_rfl)) (fun _ _ _ h => h) (Or.inr ⟨by rfl, rfl⟩) ?_ ?_
        rotate_left
        ·simp only [Act.put, sI, sZ, sV, i64_w, i32_w]
         rfl
        refine pure_ (i := 14) (N := some 29) (v := undef) (a' := ?_) (sM 18 32767) rfl rfl (any_of HT_.out (by kernel_rfl)) (fun _ _ _ h => h) (Or.inr ⟨by rfl, rfl⟩) ?_ ?_
        rotate_left
        ·simp only [Act.put, sI, sZ, sV, i64_w, i32_w]
         rfl
        refine pure_ (i := 15) (N := some 30) (v := undef) (a' := ?_) (sM 18 65535) rfl rfl (any_of HT_.out (by kernel_rfl)) (fun _ _ _ h => h) (Or.inr ⟨by rfl, rfl⟩) ?_ ?_
        rotate_left
        ·simp only [Act.put, sI, sZ, sV, i64_w, i32_w]
         rfl
        refine pure_ (i := 16) (N := some 31) (v := undef) (a' := ?_) (sM 18 131071) rfl rfl (any_of HT_.out (by kernel_rfl)) (fun _ _ _ h => h) (Or.inr ⟨by rfl, rfl⟩) ?_ ?_
        rotate_left
        ·simp only [Act.put, sI, sZ, sV, i64_w, i32_w]
         rfl
        refine sP (v := ?_) (a' := ?_) 17 32 (sM 18 262143) HT_ ?_ ?_ ?_; rotate_left 2
        ·intro w'; go_simp; with_reducible rfl
        ·simp only [Act.put, sI, sZ, sV, i64_w, i32_w]; rfl
        refine done_ (done_of HT_.out (by kernel_rfl)) ?_
        try go_wp2
        go_ret
        exact ⟨by first | rfl | (simp [errW_none, errW_some] <;> rfl) | (simp [*, errW_none, errW_some] <;> rfl), by repeat (first | (with_reducible first | exact HB.out | apply sLA | apply sLN | apply sLD | refine sLS ?_ GE102.out) | exact HB.out)⟩
      ·rw [if_neg c5] at H
       exact absurd H (by simp)
     ·rw [if_neg c4] at H
      exact absurd H (by simp)
    ·rw [if_neg c3] at H
     have c3b0 : decide (x10_1 < (l0.length : Int)) = false := decide_eq_false c3
     clear c3
     obtain rfl := Option.some.inj H
     go_wp2
     go_ret
     exact ⟨by first | rfl | (simp [errW_none, errW_some] <;> rfl) | (simp [*, errW_none, errW_some] <;> rfl), by repeat (first | (with_reducible first | exact HB.out | apply sLA | apply sLN | apply sLD) | exact HB.out)⟩

end Go.Proofs.Ytligcknlmbgbiaa.P

namespace Go.Proofs.Ytligcknlmbgbiaa.P
open Go.RowKit Go.Proofs.YtligcknlmbgbiaaW.PrintWords Go.Proofs.YtligcknlmbgbiaaW.PrintLast Go.Proofs.YtligcknlmbgbiaaW.PrintMore
attribute [local go_sem] max2_int min2_int max_two min_two max_three min_three max_four min_four
set_option linter.unusedVariables false
set_option linter.unusedSimpArgs false

/-! ### impl_areBelow: function 43 -/
def impl_areBelow.f (k : Nat) (l0 : List (S59)) (a1 : Int) : Option (Bool) := (impl_areSpans.f k l0).bind fun t101 => (if t101 = true then (if (l0.length : Int) = 0 then (some true) else (if 0 ≤ (wrap64 ((l0.length : Int) - 1)) then (if (wrap64 ((l0.length : Int) - 1)) < (l0.length : Int) then (some (decide (((rd_T59 l0 (wrap64 ((l0.length : Int) - 1))).f1) ≤ a1))) else (none)) else (none))) else (some false))
set_option maxHeartbeats 8000000 in
set_option maxRecDepth 100000 in
theorem impl_areBelow.calls (k : Nat) (A0 : Option Addr) (c0 : Nat) (l0 : List (S59)) (a1 : Int) (r : Bool) (w : World) (hr0 : Kd.C k59 w A0 l0.length l0) (hc0 : l0.length ≤ c0) (h : impl_areBelow.f k l0 a1 = some r) :
  Calls Try.prog 43 #[.slice A0 l0.length c0, .int .i64 a1] w fun e w' => e = .returned (.bool r) ∧ Below w.heap.size w w' := by
 have HR0 := sA hr0
 have HC0 := sA hc0
 clear hr0 hc0
 have HB := sA (Below.refl w.heap.size w)
 have H : ((impl_areSpans.f k l0).bind fun t101 => (if t101 = true then (if (l0.length : Int) = 0 then (some true) else (if 0 ≤ (wrap64 ((l0.length : Int) - 1)) then (if (wrap64 ((l0.length : Int) - 1)) < (l0.length : Int) then (some (decide (((rd_T59 l0 (wrap64 ((l0.length : Int) - 1))).f1) ≤ a1))) else (none)) else (none))) else (some false))) = some r := h
 clear h
 obtain ⟨t101, A3, H⟩ := sN H
 by_cases c4 : t101 = true
 ·subst c4
  replace H := sY H
  by_cases c5 : (l0.length : Int) = 0
  ·rw [if_pos c5] at H
   have c5b0 : ((l0.length : Int) == 0) = true := beq_iff_eq.mpr c5
   have c5b1 : ((l0.length : Int) != 0) = false := bne_eq_false_iff_eq.mpr c5
   clear c5
   obtain rfl := Option.some.inj H
   go_enter Try.func43, Try.ntmps43
   go_wp2_with (first | ((with_reducible refine gate_callee (f := 67) rfl ?_); refine goesL_ (some 6) rfl rfl Try.func67 (by kernel_rfl) rfl #[.slice A0 l0.length c0] rfl sG ?_; (with_reducible refine (impl_areSpans.calls k _ _ l0 true _ ?side1 ?side2 A3.out).mono ?_); (case side1 => repeat (first | exact HR0.out | (with_reducible refine Kd.C_alloc ?_ _) | (with_reducible refine Kd.C_drewN ?_ _) | (with_reducible refine Kd.C_drew ?_))); (case side2 => exact HC0.out); rintro e w6 ⟨rfl, hb⟩; refine ⟨_, rfl, ?_⟩; replace HB := sA (below_step sH hb); (try clear hb); (try clear hb2); (try clear hk); (try clear hi)))
   go_ret
   exact ⟨by first | rfl | (simp [errW_none, errW_some] <;> rfl) | (simp [*, errW_none, errW_some] <;> rfl), by repeat (first | (with_reducible first | exact HB.out | apply sLA | apply sLN | apply sLD) | exact HB.out)⟩
  ·rw [if_neg c5] at H
   have c5b0 : ((l0.length : Int) == 0) = false := beq_eq_false_iff_ne.mpr c5
   have c5b1 : ((l0.length : Int) != 0) = true := bne_iff_ne.mpr c5
   have c5b2 : ¬ (l0 = []) := fun h_ => c5 (by rw [h_]; rfl)
   obtain ⟨ji7, hji7⟩ : ∃ j_ : Int, (wrap64 ((l0.length : Int) - 1)) = j_ := ⟨_, rfl⟩
   replace H : (if 0 ≤ (ji7) then (if (ji7) < (l0.length : Int) then (some (decide (((rd_T59 l0 (ji7)).f1) ≤ a1))) else (none)) else (none)) = some r := by first | (rw [hji7] at H; exact H) | (simp only [hji7] at H ⊢; exact H)
   (try rw [hji7] at A3)
   have hji7w : (IntKind.i64.wrap ((l0.length : Int) - 1)) = ji7 := (i64_w _).trans hji7
   by_cases c8 : 0 ≤ (ji7)
   ·rw [if_pos c8] at H
    have c8b0 : decide (0 ≤ (ji7)) = true := decide_eq_true c8
    clear c8
    by_cases c9 : (ji7) < (l0.length : Int)
    ·rw [if_pos c9] at H
     have c9b0 : decide ((ji7) < (l0.length : Int)) = true := decide_eq_true c9
     clear c9
     obtain rfl := Option.some.inj H
     go_enter Try.func43, Try.ntmps43
     go_wp2_with (first | ((with_reducible refine gate_callee (f := 67) rfl ?_); refine goesL_ (some 6) rfl rfl Try.func67 (by kernel_rfl) rfl #[.slice A0 l0.length c0] rfl sG ?_; (with_reducible refine (impl_areSpans.calls k _ _ l0 true _ ?side1 ?side2 A3.out).mono ?_); (case side1 => repeat (first | exact HR0.out | (with_reducible refine Kd.C_alloc ?_ _) | (with_reducible refine Kd.C_drewN ?_ _) | (with_reducible refine Kd.C_drew ?_))); (case side2 => exact HC0.out); rintro e w10 ⟨rfl, hb⟩; refine ⟨_, rfl, ?_⟩; replace HB := sA (below_step sH hb); (try clear hb); (try clear hb2); (try clear hk); (try clear hi); have p102 : 0 ≤ ((ji7) : Int) := of_decide_eq_true (by first | (with_reducible assumption) | assumption); have q102 : (ji7) < (l0.length : Int) := of_decide_eq_true (by first | (with_reducible assumption) | assumption); obtain ⟨ad102, e102, hx102_0, hx102_1⟩ := at_T59 HR0.out (ji7) p102 q102; cases e102; replace hx102_0 := (HB.out.cell (World.block_lt_of_cell? w _ hx102_0)).trans hx102_0; replace hx102_1 := (HB.out.cell (World.block_lt_of_cell? w _ hx102_1)).trans hx102_1; replace p102 := eq_true p102; replace q102 := eq_true q102))
     go_ret
     exact ⟨by first | rfl | (simp [errW_none, errW_some] <;> rfl) | (simp only [← hji7]; first | rfl | (simp [errW_none, errW_some] <;> rfl)) | (simp [*, errW_none, errW_some] <;> rfl), by repeat (first | (with_reducible first | exact HB.out | apply sLA | apply sLN | apply sLD) | exact HB.out)⟩
    ·rw [if_neg c9] at H
     exact absurd H (by simp)
   ·rw [if_neg c8] at H
    exact absurd H (by simp)
 ·replace c4 := Bool.eq_false_iff.mpr c4
  subst c4
  replace H := sX H
  obtain rfl := Option.some.inj H
  go_enter Try.func43, Try.ntmps43
  go_wp2_with (first | ((with_reducible refine gate_callee (f := 67) rfl ?_); refine goesL_ (some 6) rfl rfl Try.func67 (by kernel_rfl) rfl #[.slice A0 l0.length c0] rfl sG ?_; (with_reducible refine (impl_areSpans.calls k _ _ l0 false _ ?side1 ?side2 A3.out).mono ?_); (case side1 => repeat (first | exact HR0.out | (with_reducible refine Kd.C_alloc ?_ _) | (with_reducible refine Kd.C_drewN ?_ _) | (with_reducible refine Kd.C_drew ?_))); (case side2 => exact HC0.out); rintro e w11 ⟨rfl, hb⟩; refine ⟨_, rfl, ?_⟩; replace HB := sA (below_step sH hb); (try clear hb); (try clear hb2); (try clear hk); (try clear hi)))
  go_ret
  exact ⟨by first | rfl | (simp [errW_none, errW_some] <;> rfl) | (simp [*, errW_none, errW_some] <;> rfl), by repeat (first | (with_reducible first | exact HB.out | apply sLA | apply sLN | apply sLD) | exact HB.out)⟩

end Go.Proofs.Ytligcknlmbgbiaa.P

namespace Go.Proofs.Ytligcknlmbgbiaa.P
open Go.RowKit Go.Proofs.YtligcknlmbgbiaaW.PrintWords Go.Proofs.YtligcknlmbgbiaaW.PrintLast Go.Proofs.YtligcknlmbgbiaaW.PrintMore
attribute [local go_sem] max2_int min2_int max_two min_two max_three min_three max_four min_four
set_option linter.unusedVariables false
set_option linter.unusedSimpArgs false

/-! ### impl_in: function 63 -/
def impl_in.f (a0 : Int) (a1 : Int) (a2 : Int) : Option (Bool) := if a0 ≥ a1 then (some (decide (a0 ≤ a2))) else (some false)
set_option maxHeartbeats 8000000 in
set_option maxRecDepth 100000 in
theorem impl_in.calls (a0 : Int) (a1 : Int) (a2 : Int) (r : Bool) (w : World) (h : impl_in.f a0 a1 a2 = some r) :
  Calls Try.prog 63 #[.int .i64 a0, .int .i64 a1, .int .i64 a2] w fun e w' => e = .returned (.bool r) ∧ Drawn0 w w' := by
 have H : (if a0 ≥ a1 then (some (decide (a0 ≤ a2))) else (some false)) = some r := h
 clear h
 by_cases c4 : a0 ≥ a1
 ·rw [if_pos c4] at H
  have c4b0 : decide (a1 ≤ a0) = true := decide_eq_true c4
  clear c4
  obtain rfl := Option.some.inj H
  go_enter Try.func63, Try.ntmps63
  go_wp2
  go_ret
  exact ⟨by first | rfl | (simp; done) | (simp [*]; done), by repeat (first | exact Drawn0.refl _ | apply Drawn0.step)⟩
 ·rw [if_neg c4] at H
  have c4b0 : decide (a1 ≤ a0) = false := decide_eq_false c4
  clear c4
  obtain rfl := Option.some.inj H
  go_enter Try.func63, Try.ntmps63
  go_wp2
  go_ret
  exact ⟨by first | rfl | (simp; done) | (simp [*]; done), by repeat (first | exact Drawn0.refl _ | apply Drawn0.step)⟩

end Go.Proofs.Ytligcknlmbgbiaa.P

namespace Go.Proofs.Ytligcknlmbgbiaa.P
open Go.RowKit Go.Proofs.YtligcknlmbgbiaaW.PrintWords Go.Proofs.YtligcknlmbgbiaaW.PrintLast Go.Proofs.YtligcknlmbgbiaaW.PrintMore
attribute [local go_sem] max2_int min2_int max_two min_two max_three min_three max_four min_four
set_option linter.unusedVariables false
set_option linter.unusedSimpArgs false

end Go.Proofs.Ytligcknlmbgbiaa.P

namespace Go.Proofs.Ytligcknlmbgbiaa.P
open Go.RowKit Go.Proofs.YtligcknlmbgbiaaW.PrintWords Go.Proofs.YtligcknlmbgbiaaW.PrintLast Go.Proofs.YtligcknlmbgbiaaW.PrintMore
attribute [local go_sem] max2_int min2_int max_two min_two max_three min_three max_four min_four
set_option linter.unusedVariables false
set_option linter.unusedSimpArgs false

theorem below_alloc_of {B : Nat} {w W : World} {n : Nat} {o : Obj} (hs : B ≤ n) (h : Below B w W) (hn : n ≤ W.heap.size := by simp) : Below B w (W.alloc o) := h.alloc (Nat.le_trans hs hn) o
/-- A call by a contract that ends in Below of its own world, seen from an elder world. -/
theorem below_calls {P : Program} {f : FuncId} {args : Array Value} (w : World) {W : World} {R : Ending → World → Prop} {Q : Ending → World → Prop} (hc : Calls P f args W fun e w' => R e w') (hb : Below w.heap.size w W)
    (h : ∀ e w', (R e w' ∧ (Below W.heap.size W w' → Below w.heap.size w w')) → Q e w') : Calls P f args W Q :=
  hc.mono fun e w' hr => h e w' ⟨hr, fun hd => below_then hb hb.size hd⟩

end Go.Proofs.Ytligcknlmbgbiaa.P
