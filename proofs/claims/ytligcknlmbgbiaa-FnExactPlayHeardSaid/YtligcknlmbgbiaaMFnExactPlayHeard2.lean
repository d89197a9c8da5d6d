/- FnExactPlayHeard: for every input that can be read, the law returns true and its arguments read as before. Conditions: none beyond the row's own. (Part 3 of 6: contracts made by pw.py with the kit's print, contracts by hand, plain laws, the row.) -/
import Derived.Test.YtligcknlmbgbiaaMFnExactPlayHeard1

namespace Go.Proofs.Ytligcknlmbgbiaa.P
open Go.RowKit Go.Proofs.YtligcknlmbgbiaaW.PrintWords Go.Proofs.YtligcknlmbgbiaaW.PrintLast Go.Proofs.YtligcknlmbgbiaaW.PrintMore
attribute [local go_sem] max2_int min2_int max_two min_two max_three min_three max_four min_four
set_option linter.unusedVariables false
set_option linter.unusedSimpArgs false

/-! ### spec_l11Hear: function 41 -/
mutual
def spec_l11Hear.l0 : Nat → List Int → Int → Int → List (S59) → List Int → Int → List (S59) → Option (Int × (List (S59)) × List Int × List Int × List Int × Bool)
  | 0, _, _, _, _, _, _, _ => none
  | k + 1, x9, x11, x102000, x102001, x102002, x107000, x107001 => if x11 < x102000 then ((spec_l2Has.f k x107001 x11).bind fun t107 => (if t107 = true then ((spec_l2Has.f k x102001 x11).bind fun t108 => (if t108 = true then (spec_l11Hear.l0 k x9 (wrap64 (x11 + 1)) x102000 x102001 x102002 x107000 x107001) else (if x9.length < 17592186044416 then (spec_l11Hear.l0 k (x9 ++ [x11]) (wrap64 (x11 + 1)) x102000 x102001 x102002 x107000 x107001) else (none)))) else (spec_l11Hear.l0 k x9 (wrap64 (x11 + 1)) x102000 x102001 x102002 x107000 x107001))) else (if (x107001.length : Int) > 0 then (if 0 ≤ (wrap64 ((x107001.length : Int) - 1)) then (if (wrap64 ((x107001.length : Int) - 1)) < (x107001.length : Int) then (spec_l11Hear.j1 k x9 ([] : List Int) (wrap64 (((rd_T59 x107001 (wrap64 ((x107001.length : Int) - 1))).f1) - 1)) x102000 x102001 x102002 x107000 x107001) else (none)) else (none)) else (spec_l11Hear.j1 k x9 ([] : List Int) (-1) x102000 x102001 x102002 x107000 x107001))
def spec_l11Hear.j1 : Nat → List Int → List Int → Int → Int → List (S59) → List Int → Int → List (S59) → Option (Int × (List (S59)) × List Int × List Int × List Int × Bool)
  | 0, _, _, _, _, _, _, _, _ => none
  | k + 1, x9, x10, x12, x102000, x102001, x102002, x107000, x107001 => spec_l11Hear.l1 k x9 x10 x12 0 x102000 x102001 x102002 x107000 x107001 ([] : List Int)
def spec_l11Hear.l1 : Nat → List Int → List Int → Int → Int → Int → List (S59) → List Int → Int → List (S59) → List Int → Option (Int × (List (S59)) × List Int × List Int × List Int × Bool)
  | 0, _, _, _, _, _, _, _, _, _, _ => none
  | k + 1, x9, x10, x12, x14, x102000, x102001, x102002, x107000, x107001, x107002 => if x14 < x102000 then ((spec_l2Has.f k x107001 x14).bind fun t113 => (if t113 = true then (spec_l11Hear.l1 k x9 x10 x12 (wrap64 (x14 + 1)) x102000 x102001 x102002 x107000 x107001 x107002) else ((spec_l1Has.f k x102002 x14).bind fun t114 => (if t114 = true then (spec_l11Hear.j3 k x9 x10 x12 x14 t114 true x102000 x102001 x102002 x107000 x107001 x107002) else (spec_l11Hear.j3 k x9 x10 x12 x14 t114 (decide (x12 ≥ (wrap64 (x14 + 3)))) x102000 x102001 x102002 x107000 x107001 x107002))))) else (some (x107000, x107001, x107002, x9, x10, decide ((x107001.length : Int) ≤ 20)))
def spec_l11Hear.j3 : Nat → List Int → List Int → Int → Int → Bool → Bool → Int → List (S59) → List Int → Int → List (S59) → List Int → Option (Int × (List (S59)) × List Int × List Int × List Int × Bool)
  | 0, _, _, _, _, _, _, _, _, _, _, _, _ => none
  | k + 1, x9, x10, x12, x14, x15, x77, x102000, x102001, x102002, x107000, x107001, x107002 => if x77 = true then (if x107002.length < 17592186044416 then ((some (x107002 ++ [x14] : List Int)).bind fun y115 => (if x15 = true then (spec_l11Hear.l1 k x9 x10 x12 (wrap64 (x14 + 1)) x102000 x102001 x102002 x107000 x107001 y115) else (if x12 ≥ (wrap64 (x14 + 3)) then (if x10.length < 17592186044416 then (spec_l11Hear.l1 k x9 (x10 ++ [x14]) x12 (wrap64 (x14 + 1)) x102000 x102001 x102002 x107000 x107001 y115) else (none)) else (spec_l11Hear.l1 k x9 x10 x12 (wrap64 (x14 + 1)) x102000 x102001 x102002 x107000 x107001 y115)))) else (none)) else (if x15 = true then (spec_l11Hear.l1 k x9 x10 x12 (wrap64 (x14 + 1)) x102000 x102001 x102002 x107000 x107001 x107002) else (if x12 ≥ (wrap64 (x14 + 3)) then (if x10.length < 17592186044416 then (spec_l11Hear.l1 k x9 (x10 ++ [x14]) x12 (wrap64 (x14 + 1)) x102000 x102001 x102002 x107000 x107001 x107002) else (none)) else (spec_l11Hear.l1 k x9 x10 x12 (wrap64 (x14 + 1)) x102000 x102001 x102002 x107000 x107001 x107002)))
end
def spec_l11Hear.f (k : Nat) (a0_0 : Int) (l0_1 : List (S59)) (l0_2 : List Int) (l1 : List (S59)) : Option (Int × (List (S59)) × List Int × List Int × List Int × Bool) := (spec_l2Join.f k l0_1 l1).bind fun t103 => (spec_l11Hear.l0 k ([] : List Int) 0 a0_0 l0_1 l0_2 a0_0 t103)
def spec_l11Hear.T1 : Bool × List (List Nat × List Nat) := (true, [([], []), ([0], [0]), ([], []), ([2], [2]), ([], []), ([3, 4], [3, 4]), ([1, 5], [1, 5]), ([], []), ([7, 6, 5, 0, 1, 2, 3, 4, 5, 6, 7], [6, 7])])
def spec_l11Hear.B1 : List Nat := [0, 1, 0, 4, 0, 28, 63, 0, 255]
theorem spec_l11Hear.tab1 : rtab .any (opsOf Try.f41 1) = spec_l11Hear.T1 := by kernel_rfl
theorem spec_l11Hear.bits1 : waitsOk spec_l11Hear.T1.2 spec_l11Hear.B1 = true := by kernel_rfl
def spec_l11Hear.T21 : Bool × List (List Nat × List Nat) := (true, [([], []), ([], []), ([], []), ([], []), ([3], [3]), ([4], [4]), ([5], [5]), ([0, 0], [0]), ([1, 7, 0, 1, 7], [1]), ([2, 8, 0, 1, 2, 7, 8], [2]), ([6, 9, 0, 1, 2, 3, 4, 5, 6, 7, 8, 9], [6])])
def spec_l11Hear.B21 : List Nat := [0, 0, 0, 0, 8, 24, 56, 1, 131, 391, 1023]
theorem spec_l11Hear.tab21 : rtab .any (opsOf Try.f41 21) = spec_l11Hear.T21 := by kernel_rfl
theorem spec_l11Hear.bits21 : waitsOk spec_l11Hear.T21.2 spec_l11Hear.B21 = true := by kernel_rfl
set_option maxHeartbeats 8000000 in
set_option maxRecDepth 100000 in
theorem spec_l11Hear.calls (k : Nat) (a0_0 : Int) (A0_1 : Option Addr) (c0_1 : Nat) (l0_1 : List (S59)) (A0_2 : Option Addr) (c0_2 : Nat) (l0_2 : List Int) (A1 : Option Addr) (c1 : Nat) (l1 : List (S59)) (r1 : Int) (r2 : List (S59)) (r3 : List Int) (r4 : List Int) (r5 : List Int) (r6 : Bool) (w : World) (hr0_1 : Kd.C k59 w A0_1 l0_1.length l0_1) (hc0_1 : l0_1.length ≤ c0_1) (hr0_2 : Kd.C (Kd.int .i64) w A0_2 l0_2.length l0_2) (hc0_2 : l0_2.length ≤ c0_2) (hr1 : Kd.C k59 w A1 l1.length l1) (hc1 : l1.length ≤ c1) (h : spec_l11Hear.f k a0_0 l0_1 l0_2 l1 = some (r1, r2, r3, r4, r5, r6)) :
  Calls Try.prog 41 #[.agg #[.int .i64 a0_0, .slice A0_1 l0_1.length c0_1, .slice A0_2 l0_2.length c0_2], .slice A1 l1.length c1] w fun e w' => ∃ v1_ v2_ v3_ v4_ : Value, e = .returned (.tuple #[.agg #[.int .i64 r1, v1_, v2_], v3_, v4_, .bool r6]) ∧ Kd.R k59 59 w' w.heap.size (fun _ => True) v1_ r2 ∧ Kd.R (Kd.int .i64) 3 w' w.heap.size (fun k_ => some k_ ≠ (v3_ : Value).ownBlock ∧ some k_ ≠ (v4_ : Value).ownBlock) v2_ r3 ∧ Kd.R (Kd.int .i64) 3 w' w.heap.size (fun k_ => some k_ ≠ (v2_ : Value).ownBlock ∧ some k_ ≠ (v4_ : Value).ownBlock) v3_ r4 ∧ Kd.R (Kd.int .i64) 3 w' w.heap.size (fun k_ => some k_ ≠ (v2_ : Value).ownBlock ∧ some k_ ≠ (v3_ : Value).ownBlock) v4_ r5 ∧ Below w.heap.size w w' := by
 have hu31 := Try.underlying31
 have HR0_1 := sA hr0_1
 have HC0_1 := sA hc0_1
 clear hr0_1 hc0_1
 have HR0_2 := sA hr0_2
 have HC0_2 := sA hc0_2
 clear hr0_2 hc0_2
 have HR1 := sA hr1
 have HC1 := sA hc1
 clear hr1 hc1
 have HB := sA (Below.refl w.heap.size w)
 have H : ((spec_l2Join.f k l0_1 l1).bind fun t103 => (spec_l11Hear.l0 k ([] : List Int) 0 a0_0 l0_1 l0_2 a0_0 t103)) = some (r1, r2, r3, r4, r5, r6) := h
 clear h
 replace H := Option.bind_eq_some_iff.mp H
 obtain ⟨t103, A30, H⟩ := H
 replace H : (spec_l11Hear.l0 k ([] : List Int) 0 a0_0 l0_1 l0_2 a0_0 t103) = some (r1, r2, r3, r4, r5, r6) := H
 have A3 := sA A30
 clear A30
 have H' := sA H
 clear H
 go_enter Try.func41, Try.ntmps41
 try go_wp2_with (first | ((with_reducible refine gate_dst (N := 2) rfl ?_); refine box_event ?hg (N := 2) ?hd (cs := #[.int .i64 a0_0, .slice A0_1 l0_1.length c0_1, .slice A0_2 l0_2.length c0_2]) (t := 31) ?hr ?_; (case hd => rfl); (case hg => rfl); (case hr => first | (go_simp; done) | (go_simp; rfl)); intro gb101 hg w4 hbox hb; have n0_ := sA (below_step (by repeat (first | (with_reducible first | exact HB.out | apply sLA | apply sLN | apply sLD) | exact HB.out)) hb); have n1_ := sA (hbox); have n2_ := sA ((by rw [hg]; exact (below_size (by repeat (first | (with_reducible first | exact HB.out | apply sLA | apply sLN | apply sLD) | exact HB.out))) : w.heap.size ≤ gb101)); have n3_ := sA ((by rw [hg]; exact (below_size (by repeat (first | (with_reducible first | exact HB.out | apply sLA | apply sLN | apply sLD) | exact HB.out))) : w.heap.size ≤ gb101)); clear HB; have HB := n0_; have BK101 := n1_; have GW101 := n2_; have GE101 := n3_; clear n0_ n1_ n2_ n3_; clear hb hbox hg) | ((with_reducible refine gate_dst (N := 4) rfl ?_); refine box_event ?hg (N := 4) ?hd (cs := #[.int .i64 0, .slice none 0 0, .slice none 0 0]) (t := 31) ?hr ?_; (case hd => rfl); (case hg => rfl); (case hr => first | (go_simp; done) | (go_simp; rfl)); intro gb102 hg w5 hbox hb; have n0_ := sA (blk_below (sB BK101.out) hb); have n1_ := sA (below_step (by repeat (first | (with_reducible first | exact HB.out | apply sLA | apply sLN | apply sLD | refine sLS ?_ GE101.out) | exact HB.out)) hb); have n2_ := sA (hbox); have n3_ := sA ((by rw [hg]; exact (below_size (by repeat (first | (with_reducible first | exact HB.out | apply sLA | apply sLN | apply sLD | refine sLS ?_ GE101.out) | exact HB.out))) : w.heap.size ≤ gb102)); have n4_ := sA ((by rw [hg]; exact (below_size (by repeat (first | (with_reducible first | exact HB.out | apply sLA | apply sLN | apply sLD | refine sLS ?_ GE101.out) | exact HB.out))) : w.heap.size ≤ gb102)); have n5_ := sA ((by rw [hg]; exact Nat.ne_of_lt (blk_lt (sB BK101.out)) : gb101 ≠ gb102)); have n6_ := sA ((by rw [hg]; exact Nat.ne_of_gt (blk_lt (sB BK101.out)) : gb102 ≠ gb101)); clear BK101; clear HB; have BK101 := n0_; have HB := n1_; have BK102 := n2_; have GW102 := n3_; have GE102 := n4_; have NB101_102 := n5_; have NB102_101 := n6_; clear n0_ n1_ n2_ n3_ n4_ n5_ n6_; clear hb hbox hg))
 have n0_ := sA (blk_drew BK101.out)
 have n1_ := sA (blk_drew BK102.out)
 have n2_ := sA (below_drew1 HB.out)
 clear BK101
 clear BK102
 clear HB
 have BK101 := n0_
 have BK102 := n1_
 have HB := n2_
 clear n0_ n1_ n2_
 refine start_ (n := 9) (S := fun w' => w'.cell? ⟨gb101, 0, none⟩ = some (.int .i64 a0_0) ∧ w'.cell? ⟨gb101, 1, none⟩ = some (.slice A0_1 l0_1.length c0_1) ∧ w'.cell? ⟨gb101, 2, none⟩ = some (.slice A0_2 l0_2.length c0_2)) (ds := []) (sM 9 0) (by kernel_rfl) rfl rfl ⟨sC BK101 0 rfl, sC BK101 1 rfl, sC BK101 2 rfl⟩ (fun hHeld => ?_); refine with_tabW spec_l11Hear.tab1 spec_l11Hear.bits1 (fun HT_ HW_ => ?_)
 generalize w5.drew = w6 at BK101 BK102 HB hHeld ⊢
 refine pure_ (i := 0) (N := some 16) (v := ?_) (a' := ?_) (sM 9 1) rfl rfl (any_of HT_.out (by kernel_rfl)) (fun _ _ _ h => h) (Or.inl ⟨by rfl, ?_⟩) ?_ ?_
 rotate_left
 ·intro w'
  go_simp
  with_reducible rfl
 rotate_left
 ·simp only [Act.put, sI, sZ, sV, i64_w, i32_w]
  rfl
 refine pure_ (i := 2) (N := some 18) (v := ?_) (a' := ?_) (sM 9 5) rfl rfl (any_of HT_.out (by kernel_rfl)) (fun _ _ _ h => h) (Or.inl ⟨by rfl, ?_⟩) ?_ ?_
 rotate_left
 ·intro w'
  go_simp
  with_reducible rfl
 rotate_left
 ·simp only [Act.put, sI, sZ, sV, i64_w, i32_w]
  rfl
 refine pure_ (i := 4) (N := some 20) (v := ?_) (a' := ?_) (sM 9 21) rfl rfl (any_of HT_.out (by kernel_rfl)) (fun _ _ _ h => h) (Or.inl ⟨by rfl, ?_⟩) ?_ ?_
 rotate_left
 ·intro w'
  go_simp
  with_reducible rfl
 rotate_left
 ·simp only [Act.put, sI, sZ, sV, i64_w, i32_w]
  rfl
 refine take_ (i := 1) (N := some 17) (v := ?_) (a' := ?_) (sM 9 23) rfl rfl (take_ofW HT_.out HW_.out (by kernel_rfl)) (fun _ _ _ h => h) (Or.inl ⟨by rfl, ?_⟩) hHeld ?_ ?_
 rotate_left
 ·rintro w' ⟨s0, s1, s2⟩
  go_simp
  with_reducible rfl
 rotate_left
 ·simp only [Act.put, sI, sZ, sV, i64_w, i32_w]
  rfl
 refine take_ (i := 3) (N := some 19) (v := ?_) (a' := ?_) (sM 9 31) rfl rfl (take_ofW HT_.out HW_.out (by kernel_rfl)) (fun _ _ _ h => h) (Or.inl ⟨by rfl, ?_⟩) hHeld ?_ ?_
 rotate_left
 ·rintro w' ⟨s0, s1, s2⟩
  go_simp
  with_reducible rfl
 rotate_left
 ·simp only [Act.put, sI, sZ, sV, i64_w, i32_w]
  rfl
 refine join_ (σ := Value × Nat) 1 (sM 9 255) (fun s_ => [(21, s_.1), (8, .pointer (some ⟨s_.2, 0, none⟩)), (22, .agg #[.int .i64 a0_0, s_.1, .slice none 0 0])]) (fun s_ w' => (w'.cell? ⟨gb101, 0, none⟩ = some (.int .i64 a0_0) ∧ w'.cell? ⟨gb101, 1, none⟩ = some (.slice A0_1 l0_1.length c0_1) ∧ w'.cell? ⟨gb101, 2, none⟩ = some (.slice A0_2 l0_2.length c0_2)) ∧ (Kd.R k59 59 w' w.heap.size (fun _ => True) s_.1 t103) ∧ (w'.heap[gb101]? = some (.cells #[.int .i64 a0_0, .slice A0_1 l0_1.length c0_1, .slice A0_2 l0_2.length c0_2] 31 (0, 0))) ∧ (w'.heap[gb102]? = some (.cells #[.int .i64 0, .slice none 0 0, .slice none 0 0] 31 (0, 0))) ∧ (w'.heap[s_.2]? = some (.cells #[.int .i64 0, .slice none 0 0, .slice none 0 0] 31 (0, 0))) ∧ (w.heap.size ≤ s_.2) ∧ (w.heap.size ≤ s_.2) ∧ (gb101 ≠ s_.2) ∧ (s_.2 ≠ gb101) ∧ (gb102 ≠ s_.2) ∧ (s_.2 ≠ gb102) ∧ (Below w.heap.size w w')) ?_ ?_
 rotate_left
 ·intro hCont
  refine two_ (i := 5) (j := 7) (Ni := some 21) (Nj := some 8) (sM 9 63) (sM 9 159) rfl rfl rfl rfl (two_of HT_.out (by kernel_rfl)) (by decide) (by decide) (fun K hK => ?_) (fun K hK => ?_)
  ·skip
   refine goes_ Try.func66 (by kernel_rfl) rfl #[.slice A0_1 l0_1.length c0_1, .slice A1 l1.length c1] (by rfl) rfl rfl (by (try simp only [List.map_toArray, List.map_cons, List.map_nil]); first | done | rfl | (simp only [List.length_drop, List.length_take]; rfl)) ?_
   with_reducible refine (spec_l2Join.calls k _ _ l0_1 _ _ l1 t103 _ ?side1 ?side2 ?side3 ?side4 A3.out).mono ?_
   (case side1 => repeat (first | exact (Kd.C_below HR0_1.out HB.out) | (with_reducible refine Kd.C_alloc ?_ _) | (with_reducible refine Kd.C_drewN ?_ _) | (with_reducible refine Kd.C_drew ?_)))
   (case side2 => exact HC0_1.out)
   (case side3 => repeat (first | exact (Kd.C_below HR1.out HB.out) | (with_reducible refine Kd.C_alloc ?_ _) | (with_reducible refine Kd.C_drewN ?_ _) | (with_reducible refine Kd.C_drew ?_)))
   (case side4 => exact HC1.out)
   rintro e w7 ⟨v104, rfl, ho0, hb⟩
   refine ⟨_, rfl, ?_⟩
   have n0_ := sA (Kd.R_lower ho0 (below_size (by repeat (first | (with_reducible first | exact HB.out | apply sLA | apply sLN | apply sLD | refine sLS ?_ (Aside0.out (by assumption))) | exact HB.out))))
   have n1_ := sA (blk_below (sB BK101.out) hb)
   have n2_ := sA (blk_below (sB BK102.out) hb)
   have n3_ := sA (below_step (by repeat (first | (with_reducible first | exact HB.out | apply sLA | apply sLN | apply sLD | refine sLS ?_ (Aside0.out (by assumption))) | exact HB.out)) hb)
   clear BK101
   clear BK102
   clear HB
   have HO105 := n0_
   have BK101 := n1_
   have BK102 := n2_
   have HB := n3_
   clear n0_ n1_ n2_ n3_
   (try clear hb)
   (try clear hb2)
   (try clear hk)
   (try clear hi)
   (try clear ho0)
   obtain ⟨Ao8, co8, eo8⟩ := Kd.R_slice HO105.out
   (first | subst eo8 | (injection eo8 with f1_ f2_ f3_; have f4_ := f1_.symm; have f5_ := f3_.symm; clear f1_ f2_ f3_; subst f4_; subst f5_))
   refine hK.out _ _ ⟨sC BK101 0 rfl, sC BK101 1 rfl, sC BK101 2 rfl⟩ (fun hHeld => ?_)
   clear hK K
   refine norm_ (a' := ?_) ?_ ?_
   rotate_left
   ·show Act.put _ (some 21) _ = _
    simp only [Act.put, sI, sZ, sV, i64_w, i32_w]
    rfl
   refine pure_ (i := 6) (N := some 22) (v := ?_) (a' := ?_) (sM 9 127) rfl rfl (any_of HT_.out (by kernel_rfl)) (fun _ _ _ h => h) (Or.inl ⟨by rfl, ?_⟩) ?_ ?_
   rotate_left
   ·intro w'
    go_simp
    with_reducible rfl
   rotate_left
   ·simp only [Act.put, sI, sZ, sV, i64_w, i32_w]
    rfl
   refine one_ (i := 7) (N := some 8) (sM 9 255) rfl rfl (one_of HT_.out (by kernel_rfl)) (by decide) (fun K hK => ?_)
   refine box_step ?hg (N := 8) ?hd (cs := #[.int .i64 0, .slice none 0 0, .slice none 0 0]) (t := 31) ?hr ?_; (case hd => rfl); (case hg => rfl); (case hr => first | (go_simp; done) | (go_simp; rfl))
   intro gb106 hg w9 hbox hb
   have n0_ := sA (Kd.R_below (sR HO105.out) hb)
   have n1_ := sA (blk_below (sB BK101.out) hb)
   have n2_ := sA (blk_below (sB BK102.out) hb)
   have n3_ := sA (below_step (by repeat (first | (with_reducible first | exact HB.out | apply sLA | apply sLN | apply sLD | refine sLS ?_ (Aside0.out (by assumption))) | exact HB.out)) hb)
   have n4_ := sA (hbox)
   have n5_ := sA ((by rw [hg]; exact (below_size (by repeat (first | (with_reducible first | exact HB.out | apply sLA | apply sLN | apply sLD | refine sLS ?_ (Aside0.out (by assumption))) | exact HB.out))) : w.heap.size ≤ gb106))
   have n6_ := sA ((by rw [hg]; exact (below_size (by repeat (first | (with_reducible first | exact HB.out | apply sLA | apply sLN | apply sLD | refine sLS ?_ (Aside0.out (by assumption))) | exact HB.out))) : w.heap.size ≤ gb106))
   have n7_ := sA ((by rw [hg]; exact Nat.ne_of_lt (blk_lt (sB BK101.out)) : gb101 ≠ gb106))
   have n8_ := sA ((by rw [hg]; exact Nat.ne_of_gt (blk_lt (sB BK101.out)) : gb106 ≠ gb101))
   have n9_ := sA ((by rw [hg]; exact Nat.ne_of_lt (blk_lt (sB BK102.out)) : gb102 ≠ gb106))
   have n10_ := sA ((by rw [hg]; exact Nat.ne_of_gt (blk_lt (sB BK102.out)) : gb106 ≠ gb102))
   clear HO105
   clear BK101
   clear BK102
   clear HB
   have HO105 := n0_
   have BK101 := n1_
   have BK102 := n2_
   have HB := n3_
   have BK106 := n4_
   have GW106 := n5_
   have GE106 := n6_
   have NB101_106 := n7_
   have NB106_101 := n8_
   have NB102_106 := n9_
   have NB106_102 := n10_
   clear n0_ n1_ n2_ n3_ n4_ n5_ n6_ n7_ n8_ n9_ n10_
   clear hb hbox hg
   refine hK.out _ _ ⟨sC BK101 0 rfl, sC BK101 1 rfl, sC BK101 2 rfl⟩ (fun hHeld => ?_)
   clear hK K
   refine norm_ (a' := ?_) ?_ ?_
   rotate_left
   ·show Act.put _ (some 8) _ = _
    simp only [Act.put, sI, sZ, sV, i64_w, i32_w]
    rfl
   exact norm_ (by simp only [putAll, Act.put, sI, sZ, sV]) (hCont (.slice Ao8 t103.length co8, gb106) _ ⟨hHeld, (sR HO105.out), (sB BK101.out), (sB BK102.out), (sB BK106.out), GW106.out, GE106.out, NB101_106.out, NB106_101.out, NB102_106.out, NB106_102.out, (by repeat (first | (with_reducible first | exact HB.out | apply sLA | apply sLN | apply sLD | refine sLS ?_ (Aside0.out (by assumption))) | exact HB.out))⟩)
  ·skip
   refine box_step ?hg (N := 8) ?hd (cs := #[.int .i64 0, .slice none 0 0, .slice none 0 0]) (t := 31) ?hr ?_; (case hd => rfl); (case hg => rfl); (case hr => first | (go_simp; done) | (go_simp; rfl))
   intro gb106 hg w7 hbox hb
   have n0_ := sA (blk_below (sB BK101.out) hb)
   have n1_ := sA (blk_below (sB BK102.out) hb)
   have n2_ := sA (below_step (by repeat (first | (with_reducible first | exact HB.out | apply sLA | apply sLN | apply sLD | refine sLS ?_ (Aside0.out (by assumption))) | exact HB.out)) hb)
   have n3_ := sA (hbox)
   have n4_ := sA ((by rw [hg]; exact (below_size (by repeat (first | (with_reducible first | exact HB.out | apply sLA | apply sLN | apply sLD | refine sLS ?_ (Aside0.out (by assumption))) | exact HB.out))) : w.heap.size ≤ gb106))
   have n5_ := sA ((by rw [hg]; exact (below_size (by repeat (first | (with_reducible first | exact HB.out | apply sLA | apply sLN | apply sLD | refine sLS ?_ (Aside0.out (by assumption))) | exact HB.out))) : w.heap.size ≤ gb106))
   have n6_ := sA ((by rw [hg]; exact Nat.ne_of_lt (blk_lt (sB BK101.out)) : gb101 ≠ gb106))
   have n7_ := sA ((by rw [hg]; exact Nat.ne_of_gt (blk_lt (sB BK101.out)) : gb106 ≠ gb101))
   have n8_ := sA ((by rw [hg]; exact Nat.ne_of_lt (blk_lt (sB BK102.out)) : gb102 ≠ gb106))
   have n9_ := sA ((by rw [hg]; exact Nat.ne_of_gt (blk_lt (sB BK102.out)) : gb106 ≠ gb102))
   clear BK101
   clear BK102
   clear HB
   have BK101 := n0_
   have BK102 := n1_
   have HB := n2_
   have BK106 := n3_
   have GW106 := n4_
   have GE106 := n5_
   have NB101_106 := n6_
   have NB106_101 := n7_
   have NB102_106 := n8_
   have NB106_102 := n9_
   clear n0_ n1_ n2_ n3_ n4_ n5_ n6_ n7_ n8_ n9_
   clear hb hbox hg
   refine hK.out _ _ ⟨sC BK101 0 rfl, sC BK101 1 rfl, sC BK101 2 rfl⟩ (fun hHeld => ?_)
   clear hK K
   refine norm_ (a' := ?_) ?_ ?_
   rotate_left
   ·show Act.put _ (some 8) _ = _
    simp only [Act.put, sI, sZ, sV, i64_w, i32_w]
    rfl
   refine one_ (i := 5) (N := some 21) (sM 9 191) rfl rfl (one_of HT_.out (by kernel_rfl)) (by decide) (fun K hK => ?_)
   refine goes_ Try.func66 (by kernel_rfl) rfl #[.slice A0_1 l0_1.length c0_1, .slice A1 l1.length c1] (by rfl) rfl rfl (by (try simp only [List.map_toArray, List.map_cons, List.map_nil]); first | done | rfl | (simp only [List.length_drop, List.length_take]; rfl)) ?_
   with_reducible refine (spec_l2Join.calls k _ _ l0_1 _ _ l1 t103 _ ?side1 ?side2 ?side3 ?side4 A3.out).mono ?_
   (case side1 => repeat (first | exact (Kd.C_below HR0_1.out HB.out) | (with_reducible refine Kd.C_alloc ?_ _) | (with_reducible refine Kd.C_drewN ?_ _) | (with_reducible refine Kd.C_drew ?_)))
   (case side2 => exact HC0_1.out)
   (case side3 => repeat (first | exact (Kd.C_below HR1.out HB.out) | (with_reducible refine Kd.C_alloc ?_ _) | (with_reducible refine Kd.C_drewN ?_ _) | (with_reducible refine Kd.C_drew ?_)))
   (case side4 => exact HC1.out)
   rintro e w8 ⟨v104, rfl, ho0, hb⟩
   refine ⟨_, rfl, ?_⟩
   have n0_ := sA (Kd.R_lower ho0 (below_size (by repeat (first | (with_reducible first | exact HB.out | apply sLA | apply sLN | apply sLD | refine sLS ?_ (Aside0.out (by assumption))) | exact HB.out))))
   have n1_ := sA (blk_below (sB BK101.out) hb)
   have n2_ := sA (blk_below (sB BK102.out) hb)
   have n3_ := sA (blk_below (sB BK106.out) hb)
   have n4_ := sA (below_step (by repeat (first | (with_reducible first | exact HB.out | apply sLA | apply sLN | apply sLD | refine sLS ?_ (Aside0.out (by assumption))) | exact HB.out)) hb)
   clear BK101
   clear BK102
   clear BK106
   clear HB
   have HO105 := n0_
   have BK101 := n1_
   have BK102 := n2_
   have BK106 := n3_
   have HB := n4_
   clear n0_ n1_ n2_ n3_ n4_
   (try clear hb)
   (try clear hb2)
   (try clear hk)
   (try clear hi)
   (try clear ho0)
   obtain ⟨Ao9, co9, eo9⟩ := Kd.R_slice HO105.out
   (first | subst eo9 | (injection eo9 with f1_ f2_ f3_; have f4_ := f1_.symm; have f5_ := f3_.symm; clear f1_ f2_ f3_; subst f4_; subst f5_))
   refine hK.out _ _ ⟨sC BK101 0 rfl, sC BK101 1 rfl, sC BK101 2 rfl⟩ (fun hHeld => ?_)
   clear hK K
   refine norm_ (a' := ?_) ?_ ?_
   rotate_left
   ·show Act.put _ (some 21) _ = _
    simp only [Act.put, sI, sZ, sV, i64_w, i32_w]
    rfl
   refine pure_ (i := 6) (N := some 22) (v := ?_) (a' := ?_) (sM 9 255) rfl rfl (any_of HT_.out (by kernel_rfl)) (fun _ _ _ h => h) (Or.inl ⟨by rfl, ?_⟩) ?_ ?_
   rotate_left
   ·intro w'
    go_simp
    with_reducible rfl
   rotate_left
   ·simp only [Act.put, sI, sZ, sV, i64_w, i32_w]
    rfl
   exact norm_ (by simp only [putAll, Act.put, sI, sZ, sV]) (hCont (.slice Ao9 t103.length co9, gb106) _ ⟨hHeld, (sR HO105.out), (sB BK101.out), (sB BK102.out), (sB BK106.out), GW106.out, GE106.out, NB101_106.out, NB106_101.out, NB102_106.out, NB106_102.out, (by repeat (first | (with_reducible first | exact HB.out | apply sLA | apply sLN | apply sLD | refine sLS ?_ (Aside0.out (by assumption))) | exact HB.out))⟩)
 rintro ⟨v104, gb106⟩ w10 ⟨hS_, h0_, h1_, h2_, h3_, h4_, h5_, h6_, h7_, h8_, h9_, h10_⟩
 have n0_ : Aside0 (Kd.R k59 59 w10 w.heap.size (fun _ => True) v104 t103) := ⟨h0_⟩
 have n1_ : Aside0 (w10.heap[gb101]? = some (.cells #[.int .i64 a0_0, .slice A0_1 l0_1.length c0_1, .slice A0_2 l0_2.length c0_2] 31 (0, 0))) := ⟨h1_⟩
 have n2_ : Aside0 (w10.heap[gb102]? = some (.cells #[.int .i64 0, .slice none 0 0, .slice none 0 0] 31 (0, 0))) := ⟨h2_⟩
 have n3_ : Aside0 (w10.heap[gb106]? = some (.cells #[.int .i64 0, .slice none 0 0, .slice none 0 0] 31 (0, 0))) := ⟨h3_⟩
 have n4_ : Aside0 (w.heap.size ≤ gb106) := ⟨h4_⟩
 have n5_ : Aside0 (w.heap.size ≤ gb106) := ⟨h5_⟩
 have n6_ : Aside0 (gb101 ≠ gb106) := ⟨h6_⟩
 have n7_ : Aside0 (gb106 ≠ gb101) := ⟨h7_⟩
 have n8_ : Aside0 (gb102 ≠ gb106) := ⟨h8_⟩
 have n9_ : Aside0 (gb106 ≠ gb102) := ⟨h9_⟩
 have n10_ : Aside0 (Below w.heap.size w w10) := ⟨h10_⟩
 clear BK101
 clear BK102
 clear HB
 clear h0_ h1_ h2_ h3_ h4_ h5_ h6_ h7_ h8_ h9_ h10_
 have HO105 := n0_
 have BK101 := n1_
 have BK102 := n2_
 have BK106 := n3_
 have GW106 := n4_
 have GE106 := n5_
 have NB101_106 := n6_
 have NB106_101 := n7_
 have NB102_106 := n8_
 have NB106_102 := n9_
 have HB := n10_
 clear n0_ n1_ n2_ n3_ n4_ n5_ n6_ n7_ n8_ n9_ n10_
 have hHeld : w10.cell? ⟨gb101, 0, none⟩ = some (.int .i64 a0_0) ∧ w10.cell? ⟨gb101, 1, none⟩ = some (.slice A0_1 l0_1.length c0_1) ∧ w10.cell? ⟨gb101, 2, none⟩ = some (.slice A0_2 l0_2.length c0_2) := hS_
 obtain ⟨Ao11, co11, eo11⟩ := Kd.R_slice HO105.out
 (first | subst eo11 | (injection eo11 with f1_ f2_ f3_; have f4_ := f1_.symm; have f5_ := f3_.symm; clear f1_ f2_ f3_; subst f4_; subst f5_))
 refine norm_ (a' := ?_) ?_ ?_
 rotate_left
 ·simp only [putAll, Act.put, sI, sZ, sV]
  rfl
 refine one_ (i := 8) (N := none) (sM 9 511) rfl rfl (one_of HT_.out (by kernel_rfl)) (by decide) (fun K hK => ?_)
 have hs12 : w10.cell? ⟨gb106, 0, none⟩ = some (.int .i64 0) := sC BK106 0 rfl
 have hfs12 := blk_frozen BK106.out 0
 have hns12_0 := NB101_106.out
 have hns12_1 := NB102_106.out
 have hms12_0 := NB106_101.out
 have hms12_1 := NB106_102.out
 have hs13 : w10.cell? ⟨gb106, 1, none⟩ = some (.slice none 0 0) := sC BK106 1 rfl
 have hfs13 := blk_frozen BK106.out 1
 have hns13_0 := NB101_106.out
 have hns13_1 := NB102_106.out
 have hms13_0 := NB106_101.out
 have hms13_1 := NB106_102.out
 have hs14 : w10.cell? ⟨gb106, 2, none⟩ = some (.slice none 0 0) := sC BK106 2 rfl
 have hfs14 := blk_frozen BK106.out 2
 have hns14_0 := NB101_106.out
 have hns14_1 := NB102_106.out
 have hms14_0 := NB106_101.out
 have hms14_1 := NB106_102.out
 refine skip_ (w1 := ?_) (by rfl) rfl ?_ ?_
 rotate_left
 ·go_simp
  rfl
 refine hK.out _ _ ⟨((cell_far (p := ⟨gb106, _, none⟩) NB101_106.out _).trans (((cell_far (p := ⟨gb106, _, none⟩) NB101_106.out _).trans (((cell_far (p := ⟨gb106, _, none⟩) NB101_106.out _).trans (hHeld.1)))))), ((cell_far (p := ⟨gb106, _, none⟩) NB101_106.out _).trans (((cell_far (p := ⟨gb106, _, none⟩) NB101_106.out _).trans (((cell_far (p := ⟨gb106, _, none⟩) NB101_106.out _).trans (hHeld.2.1)))))), ((cell_far (p := ⟨gb106, _, none⟩) NB101_106.out _).trans (((cell_far (p := ⟨gb106, _, none⟩) NB101_106.out _).trans (((cell_far (p := ⟨gb106, _, none⟩) NB101_106.out _).trans (hHeld.2.2))))))⟩ (fun hHeld => ?_)
 clear hK K
 refine done_ (done_of HT_.out (by kernel_rfl)) ?_
 try go_wp2
 go_loopg [9, 11] k (fun kq v9 v11 w' => ∃ (x9_1 : List Int) (x11_1 : Int), v11 = .int .i64 x11_1 ∧ Aside0 (spec_l11Hear.l0 kq x9_1 x11_1 a0_0 l0_1 l0_2 a0_0 t103 = some (r1, r2, r3, r4, r5, r6)) ∧ Aside0 (kq ≤ k) ∧ Aside0 (Kd.R (Kd.int .i64) 3 w' w.heap.size (fun _ => True) v9 x9_1) ∧ Aside0 (Kd.R k59 59 w' w.heap.size (fun _ => True) (.slice Ao11 t103.length co11) t103) ∧ Aside0 (w'.heap[gb101]? = some (.cells #[.int .i64 a0_0, (.slice A0_1 l0_1.length c0_1), (.slice A0_2 l0_2.length c0_2)] 31 (0, 0))) ∧ Aside0 (w'.heap[gb102]? = some (.cells #[.int .i64 0, (.slice none 0 0), (.slice none 0 0)] 31 (0, 0))) ∧ Aside0 (w'.heap[gb106]? = some (.cells #[.int .i64 a0_0, (.slice Ao11 t103.length co11), (.slice none 0 0)] 31 (0, 0))) ∧ Aside0 (Below w.heap.size w w'))
 case atStart => exact ⟨(([] : List Int)), (0), (by first | rfl | (simp; done) | (simp [*]; done)), H', ⟨Nat.le_refl _⟩, ⟨by first | exact Kd.R_nil _ _ _ _ _ | exact Kd.N_nil _ _ _ _ _ | exact Kd.V_nil _ _ _ _ _ | exact Kd.Q_nil _ _ _ _ _ | exact Kd.S_nil _ _ _ _ _⟩, ⟨sR (Kd.R_mono (Kd.R_far (p := ⟨gb106, 2, none⟩) (Kd.R_far (p := ⟨gb106, 1, none⟩) (Kd.R_far (p := ⟨gb106, 0, none⟩) (Kd.R_types HO105.out BK106.out (by decide)) (fun _ hk => hk.2) (.int .i64 a0_0)) (fun _ hk => hk.2) (.slice Ao11 t103.length co11)) (fun _ hk => hk.2) (.slice none 0 0)) (fun _ hk => trivial))⟩, ⟨by (with_reducible repeat first | apply blk_drewN | apply blk_drew | apply blk_alloc); refine blk_far ?_ NB101_106.out _; (with_reducible repeat first | apply blk_drewN | apply blk_drew | apply blk_alloc); refine blk_far ?_ NB101_106.out _; (with_reducible repeat first | apply blk_drewN | apply blk_drew | apply blk_alloc); refine blk_far ?_ NB101_106.out _; (with_reducible repeat first | apply blk_drewN | apply blk_drew | apply blk_alloc); exact BK101.out⟩, ⟨by (with_reducible repeat first | apply blk_drewN | apply blk_drew | apply blk_alloc); refine blk_far ?_ NB102_106.out _; (with_reducible repeat first | apply blk_drewN | apply blk_drew | apply blk_alloc); refine blk_far ?_ NB102_106.out _; (with_reducible repeat first | apply blk_drewN | apply blk_drew | apply blk_alloc); refine blk_far ?_ NB102_106.out _; (with_reducible repeat first | apply blk_drewN | apply blk_drew | apply blk_alloc); exact BK102.out⟩, ⟨by (with_reducible repeat first | apply blk_drewN | apply blk_drew | apply blk_alloc); refine blk_put (cs := #[.int .i64 a0_0, .slice Ao11 t103.length co11, .slice none 0 0]) ?_ 2 _ rfl; (with_reducible repeat first | apply blk_drewN | apply blk_drew | apply blk_alloc); refine blk_put (cs := #[.int .i64 a0_0, .slice none 0 0, .slice none 0 0]) ?_ 1 _ rfl; (with_reducible repeat first | apply blk_drewN | apply blk_drew | apply blk_alloc); refine blk_put (cs := #[.int .i64 0, .slice none 0 0, .slice none 0 0]) ?_ 0 _ rfl; (with_reducible repeat first | apply blk_drewN | apply blk_drew | apply blk_alloc); exact BK106.out⟩, ⟨by repeat (first | (with_reducible first | exact HB.out | apply sLA | apply sLN | apply sLD | refine sLS ?_ GE101.out | refine sLS ?_ GE102.out | refine sLS ?_ GE106.out) | exact HB.out)⟩⟩
 case round =>
  clear H'
  try clear c1
  try clear p2
  try clear c4
  try clear c6
  obtain ⟨x9_1, x11_1, rfl, HA, HK1, HO_9, HO_107001, BK101, BK102, BK106, HB⟩ := hrel
  cases gk with
  | zero => exact absurd HA.out (by simp [spec_l11Hear.l0])
  | succ k1 =>
   have H := HA.out
   clear HA
   simp only [spec_l11Hear.l0] at H
   by_cases c15 : x11_1 < a0_0
   ·rw [if_pos c15] at H
    have c15b0 : decide (x11_1 < a0_0) = true := decide_eq_true c15
    clear c15
    replace H := Option.bind_eq_some_iff.mp H
    obtain ⟨t107, A160, H⟩ := H
    replace H : (if t107 = true then ((spec_l2Has.f k1 l0_1 x11_1).bind fun t108 => (if t108 = true then (spec_l11Hear.l0 k1 x9_1 (wrap64 (x11_1 + 1)) a0_0 l0_1 l0_2 a0_0 t103) else (if x9_1.length < 17592186044416 then (spec_l11Hear.l0 k1 (x9_1 ++ [x11_1]) (wrap64 (x11_1 + 1)) a0_0 l0_1 l0_2 a0_0 t103) else (none)))) else (spec_l11Hear.l0 k1 x9_1 (wrap64 (x11_1 + 1)) a0_0 l0_1 l0_2 a0_0 t103)) = some (r1, r2, r3, r4, r5, r6) := H
    have A16 := sA A160
    clear A160
    by_cases c17 : t107 = true
    ·subst c17
     have H1 : ((spec_l2Has.f k1 l0_1 x11_1).bind fun t108 => (if t108 = true then (spec_l11Hear.l0 k1 x9_1 (wrap64 (x11_1 + 1)) a0_0 l0_1 l0_2 a0_0 t103) else (if x9_1.length < 17592186044416 then (spec_l11Hear.l0 k1 (x9_1 ++ [x11_1]) (wrap64 (x11_1 + 1)) a0_0 l0_1 l0_2 a0_0 t103) else (none)))) = some (r1, r2, r3, r4, r5, r6) := by rw [if_pos rfl] at H; exact H
     clear H
     have H := H1
     clear H1
     replace H := Option.bind_eq_some_iff.mp H
     obtain ⟨t108, A180, H⟩ := H
     replace H : (if t108 = true then (spec_l11Hear.l0 k1 x9_1 (wrap64 (x11_1 + 1)) a0_0 l0_1 l0_2 a0_0 t103) else (if x9_1.length < 17592186044416 then (spec_l11Hear.l0 k1 (x9_1 ++ [x11_1]) (wrap64 (x11_1 + 1)) a0_0 l0_1 l0_2 a0_0 t103) else (none))) = some (r1, r2, r3, r4, r5, r6) := H
     have A18 := sA A180
     clear A180
     by_cases c19 : t108 = true
     ·subst c19
      have H1 : (spec_l11Hear.l0 k1 x9_1 (wrap64 (x11_1 + 1)) a0_0 l0_1 l0_2 a0_0 t103) = some (r1, r2, r3, r4, r5, r6) := by rw [if_pos rfl] at H; exact H
      clear H
      have H := H1
      clear H1
      have H' := sA H
      clear H
      have hnb20 := NB101_102.out
      have hnc20 := NB102_101.out
      have hnb21 := NB101_106.out
      have hnc21 := NB106_101.out
      have hcz22_0 : wr.cell? ⟨gb101, 0, none⟩ = some (.int .i64 a0_0) := sC BK101 0 rfl
      have hcz22_1 : wr.cell? ⟨gb101, 1, none⟩ = some (.slice A0_1 l0_1.length c0_1) := sC BK101 1 rfl
      have hcz22_2 : wr.cell? ⟨gb101, 2, none⟩ = some (.slice A0_2 l0_2.length c0_2) := sC BK101 2 rfl
      have hfz22_0 := blk_frozen BK101.out 0
      have hfz22_1 := blk_frozen BK101.out 1
      have hfz22_2 := blk_frozen BK101.out 2
      have hnb23 := NB106_102.out
      have hnc23 := NB102_106.out
      have hcz24_0 : wr.cell? ⟨gb106, 0, none⟩ = some (.int .i64 a0_0) := sC BK106 0 rfl
      have hcz24_1 : wr.cell? ⟨gb106, 1, none⟩ = some (.slice Ao11 t103.length co11) := sC BK106 1 rfl
      have hcz24_2 : wr.cell? ⟨gb106, 2, none⟩ = some (.slice none 0 0) := sC BK106 2 rfl
      have hfz24_0 := blk_frozen BK106.out 0
      have hfz24_1 := blk_frozen BK106.out 1
      have hfz24_2 := blk_frozen BK106.out 2
      go_wp2_with (first | ((with_reducible refine gate_callee (f := 61) rfl ?_); refine goesL_ (some 32) rfl rfl Try.func61 (by kernel_rfl) rfl #[.slice Ao11 t103.length co11, .int .i64 x11_1] rfl (by (try simp only [List.map_toArray, List.map_cons, List.map_nil]); first | done | rfl | (simp only [List.length_drop, List.length_take]; rfl)) ?_; (with_reducible refine (spec_l2Has.calls k1 _ _ t103 x11_1 true _ ?side1 ?side2 A16.out).mono ?_); (case side1 => repeat (first | exact (Kd.R_reads' HO_107001.out).2.2 | (with_reducible refine Kd.C_alloc ?_ _) | (with_reducible refine Kd.C_drewN ?_ _) | (with_reducible refine Kd.C_drew ?_))); (case side2 => exact (Kd.R_reads' HO_107001.out).2.1); rintro e w25 ⟨rfl, hb⟩; refine ⟨_, rfl, ?_⟩; have n0_ := sA (Kd.R_below (sR HO_9.out) hb); have n1_ := sA (Kd.R_below (sR HO_107001.out) hb); have n2_ := sA (blk_below (sB BK101.out) hb); have n3_ := sA (blk_below (sB BK102.out) hb); have n4_ := sA (blk_below (sB BK106.out) hb); have n5_ := sA (below_step (by repeat (first | (with_reducible first | exact HB.out | apply sLA | apply sLN | apply sLD | refine sLS ?_ (Aside0.out (by assumption))) | exact HB.out)) hb); clear HO_9; clear HO_107001; clear BK101; clear BK102; clear BK106; clear HB; have HO_9 := n0_; have HO_107001 := n1_; have BK101 := n2_; have BK102 := n3_; have BK106 := n4_; have HB := n5_; clear n0_ n1_ n2_ n3_ n4_ n5_; (try clear hb); (try clear hb2); (try clear hk); (try clear hi); have hcz26_0 : w25.cell? ⟨gb101, 0, none⟩ = some (.int .i64 a0_0) := sC BK101 0 rfl; have hcz26_1 : w25.cell? ⟨gb101, 1, none⟩ = some (.slice A0_1 l0_1.length c0_1) := sC BK101 1 rfl; have hcz26_2 : w25.cell? ⟨gb101, 2, none⟩ = some (.slice A0_2 l0_2.length c0_2) := sC BK101 2 rfl; have hfz26_0 := blk_frozen BK101.out 0; have hfz26_1 := blk_frozen BK101.out 1; have hfz26_2 := blk_frozen BK101.out 2) | (go_at_call 61; (with_reducible refine (spec_l2Has.calls k1 _ _ l0_1 x11_1 true _ ?side1 ?side2 A18.out).mono ?_); (case side1 => repeat (first | exact (Kd.C_below HR0_1.out HB.out) | (with_reducible refine Kd.C_alloc ?_ _) | (with_reducible refine Kd.C_drewN ?_ _) | (with_reducible refine Kd.C_drew ?_))); (case side2 => exact HC0_1.out); rintro e w27 ⟨rfl, hb⟩; have n0_ := sA (Kd.R_below (sR HO_9.out) hb); have n1_ := sA (Kd.R_below (sR HO_107001.out) hb); have n2_ := sA (blk_below (sB BK101.out) hb); have n3_ := sA (blk_below (sB BK102.out) hb); have n4_ := sA (blk_below (sB BK106.out) hb); have n5_ := sA (below_step (by repeat (first | (with_reducible first | exact HB.out | apply sLA | apply sLN | apply sLD | refine sLS ?_ (Aside0.out (by assumption))) | exact HB.out)) hb); clear HO_9; clear HO_107001; clear BK101; clear BK102; clear BK106; clear HB; have HO_9 := n0_; have HO_107001 := n1_; have BK101 := n2_; have BK102 := n3_; have BK106 := n4_; have HB := n5_; clear n0_ n1_ n2_ n3_ n4_ n5_; (try clear hb); (try clear hb2); (try clear hk); (try clear hi)))
      go_roundg k1
      case measure => have := HK1.out; omega
      case rel => exact ⟨(x9_1), (wrap64 (x11_1 + 1)), (by first | rfl | (simp; done) | (simp [*]; done)), H', ⟨by have := HK1.out; omega⟩, ⟨sR HO_9.out⟩, ⟨sR HO_107001.out⟩, ⟨sB BK101.out⟩, ⟨sB BK102.out⟩, ⟨sB BK106.out⟩, ⟨by repeat (first | (with_reducible first | exact HB.out | apply sLA | apply sLN | apply sLD | refine sLS ?_ GE101.out | refine sLS ?_ GE102.out | refine sLS ?_ GE106.out) | exact HB.out)⟩⟩
     ·replace c19 := Bool.eq_false_iff.mpr c19
      subst c19
      have H1 : (if x9_1.length < 17592186044416 then (spec_l11Hear.l0 k1 (x9_1 ++ [x11_1]) (wrap64 (x11_1 + 1)) a0_0 l0_1 l0_2 a0_0 t103) else (none)) = some (r1, r2, r3, r4, r5, r6) := by rw [if_neg (show ¬ (false = true) by decide)] at H; exact H
      clear H
      have H := H1
      clear H1
      by_cases c28 : x9_1.length < 17592186044416
      ·rw [if_pos c28] at H
       have LMc28 := sA c28
       clear c28
       obtain ⟨y109, hy109⟩ : ∃ y_ : List Int, y_ = (x9_1 ++ [x11_1]) := ⟨_, rfl⟩
       replace H : (spec_l11Hear.l0 k1 y109 (wrap64 (x11_1 + 1)) a0_0 l0_1 l0_2 a0_0 t103) = some (r1, r2, r3, r4, r5, r6) := by first | (rw [hy109]; with_reducible exact H) | (have H2_ := (Option.bind_some _ _).symm.trans H; rw [hy109]; with_reducible exact H2_) | (have H2_ := (Option.bind_some _ _).symm.trans H; with_reducible exact H2_) | with_reducible exact H | (rw [hy109]; exact H) | exact H
       have Ny109 := sA hy109
       clear hy109
       have H' := sA H
       clear H
       have hnb29 := NB101_102.out
       have hnc29 := NB102_101.out
       have hnb30 := NB101_106.out
       have hnc30 := NB106_101.out
       have hcz31_0 : wr.cell? ⟨gb101, 0, none⟩ = some (.int .i64 a0_0) := sC BK101 0 rfl
       have hcz31_1 : wr.cell? ⟨gb101, 1, none⟩ = some (.slice A0_1 l0_1.length c0_1) := sC BK101 1 rfl
       have hcz31_2 : wr.cell? ⟨gb101, 2, none⟩ = some (.slice A0_2 l0_2.length c0_2) := sC BK101 2 rfl
       have hfz31_0 := blk_frozen BK101.out 0
       have hfz31_1 := blk_frozen BK101.out 1
       have hfz31_2 := blk_frozen BK101.out 2
       have hnb32 := NB106_102.out
       have hnc32 := NB102_106.out
       have hcz33_0 : wr.cell? ⟨gb106, 0, none⟩ = some (.int .i64 a0_0) := sC BK106 0 rfl
       have hcz33_1 : wr.cell? ⟨gb106, 1, none⟩ = some (.slice Ao11 t103.length co11) := sC BK106 1 rfl
       have hcz33_2 : wr.cell? ⟨gb106, 2, none⟩ = some (.slice none 0 0) := sC BK106 2 rfl
       have hfz33_0 := blk_frozen BK106.out 0
       have hfz33_1 := blk_frozen BK106.out 1
       have hfz33_2 := blk_frozen BK106.out 2
       go_wp2_with (first | ((with_reducible refine gate_callee (f := 61) rfl ?_); refine goesL_ (some 32) rfl rfl Try.func61 (by kernel_rfl) rfl #[.slice Ao11 t103.length co11, .int .i64 x11_1] rfl (by (try simp only [List.map_toArray, List.map_cons, List.map_nil]); first | done | rfl | (simp only [List.length_drop, List.length_take]; rfl)) ?_; (with_reducible refine (spec_l2Has.calls k1 _ _ t103 x11_1 true _ ?side1 ?side2 A16.out).mono ?_); (case side1 => repeat (first | exact (Kd.R_reads' HO_107001.out).2.2 | (with_reducible refine Kd.C_alloc ?_ _) | (with_reducible refine Kd.C_drewN ?_ _) | (with_reducible refine Kd.C_drew ?_))); (case side2 => exact (Kd.R_reads' HO_107001.out).2.1); rintro e w34 ⟨rfl, hb⟩; refine ⟨_, rfl, ?_⟩; have n0_ := sA (Kd.R_below (sR HO_9.out) hb); have n1_ := sA (Kd.R_below (sR HO_107001.out) hb); have n2_ := sA (blk_below (sB BK101.out) hb); have n3_ := sA (blk_below (sB BK102.out) hb); have n4_ := sA (blk_below (sB BK106.out) hb); have n5_ := sA (below_step (by repeat (first | (with_reducible first | exact HB.out | apply sLA | apply sLN | apply sLD | refine sLS ?_ (Aside0.out (by assumption))) | exact HB.out)) hb); clear HO_9; clear HO_107001; clear BK101; clear BK102; clear BK106; clear HB; have HO_9 := n0_; have HO_107001 := n1_; have BK101 := n2_; have BK102 := n3_; have BK106 := n4_; have HB := n5_; clear n0_ n1_ n2_ n3_ n4_ n5_; (try clear hb); (try clear hb2); (try clear hk); (try clear hi); have hcz35_0 : w34.cell? ⟨gb101, 0, none⟩ = some (.int .i64 a0_0) := sC BK101 0 rfl; have hcz35_1 : w34.cell? ⟨gb101, 1, none⟩ = some (.slice A0_1 l0_1.length c0_1) := sC BK101 1 rfl; have hcz35_2 : w34.cell? ⟨gb101, 2, none⟩ = some (.slice A0_2 l0_2.length c0_2) := sC BK101 2 rfl; have hfz35_0 := blk_frozen BK101.out 0; have hfz35_1 := blk_frozen BK101.out 1; have hfz35_2 := blk_frozen BK101.out 2) | (go_at_call 61; (with_reducible refine (spec_l2Has.calls k1 _ _ l0_1 x11_1 false _ ?side1 ?side2 A18.out).mono ?_); (case side1 => repeat (first | exact (Kd.C_below HR0_1.out HB.out) | (with_reducible refine Kd.C_alloc ?_ _) | (with_reducible refine Kd.C_drewN ?_ _) | (with_reducible refine Kd.C_drew ?_))); (case side2 => exact HC0_1.out); rintro e w36 ⟨rfl, hb⟩; have n0_ := sA (Kd.R_below (sR HO_9.out) hb); have n1_ := sA (Kd.R_below (sR HO_107001.out) hb); have n2_ := sA (blk_below (sB BK101.out) hb); have n3_ := sA (blk_below (sB BK102.out) hb); have n4_ := sA (blk_below (sB BK106.out) hb); have n5_ := sA (below_step (by repeat (first | (with_reducible first | exact HB.out | apply sLA | apply sLN | apply sLD | refine sLS ?_ (Aside0.out (by assumption))) | exact HB.out)) hb); clear HO_9; clear HO_107001; clear BK101; clear BK102; clear BK106; clear HB; have HO_9 := n0_; have HO_107001 := n1_; have BK101 := n2_; have BK102 := n3_; have BK106 := n4_; have HB := n5_; clear n0_ n1_ n2_ n3_ n4_ n5_; (try clear hb); (try clear hb2); (try clear hk); (try clear hi)) | ((with_reducible refine gate_builtin (b := .append) (xs := #[.tmp 40, .tmp 42]) rfl ?_); at_builtin; refine Kd.R_append (Kd.int .i64) (w0 := w) w.heap.size rfl (.tmp 40) (.tmp 42) 23 3 (.int .i64 0) 8 rfl Try.underlying23 info3 rfl (by decide) (by omega) u9 x9_1 x11_1 [.int .i64 x11_1] (fun _ => True) (fun _ => False) rfl rfl ?aP (fun _ hk => hk.elim) ?aF ?aO ?aB ?aS ?aL ?_; (case aP => exact rfl); (case aB => exact (by repeat (first | (with_reducible first | exact HB.out | apply sLA | apply sLN | apply sLD | refine sLS ?_ (Aside0.out (by assumption))) | exact HB.out))); (case aF => exact (fun _ _ => trivial)); (case aO => exact (sR HO_9.out)); (case aS => exact (below_size (by repeat (first | (with_reducible first | exact HB.out | apply sLA | apply sLN | apply sLD | refine sLS ?_ (Aside0.out (by assumption))) | exact HB.out)))); (case aL => have := LMc28.out; omega); intro v110 w37 ho hb hg hat; rw [← Ny109.out] at ho; have n0_ := sA (Kd.R_over' (sR HO_107001.out) (Kd.R_typed (sR HO_9.out)) (by decide) hg); have n1_ := sA (blk_grown (g := gb101) (o := .cells #[.int .i64 a0_0, .slice A0_1 l0_1.length c0_1, .slice A0_2 l0_2.length c0_2] 31 (0, 0)) (sB BK101.out) hg (Kd.R_ne HO_9.out BK101.out (by decide))); have n2_ := sA (blk_grown (g := gb102) (o := .cells #[.int .i64 0, .slice none 0 0, .slice none 0 0] 31 (0, 0)) (sB BK102.out) hg (Kd.R_ne HO_9.out BK102.out (by decide))); have n3_ := sA (blk_grown (g := gb106) (o := .cells #[.int .i64 a0_0, .slice Ao11 t103.length co11, .slice none 0 0] 31 (0, 0)) (sB BK106.out) hg (Kd.R_ne HO_9.out BK106.out (by decide))); have n4_ := sA (hb); have n5_ := sA (ho); clear HO_107001; clear BK101; clear BK102; clear BK106; clear HB; clear HO_9; have HO_107001 := n0_; have BK101 := n1_; have BK102 := n2_; have BK106 := n3_; have HB := n4_; have HO111 := n5_; clear n0_ n1_ n2_ n3_ n4_ n5_; clear ho hb hg hat))
       go_roundg k1
       case measure => have := HK1.out; omega
       case rel => exact ⟨(y109), (wrap64 (x11_1 + 1)), (by first | rfl | (simp; done) | (simp [*]; done)), H', ⟨by have := HK1.out; omega⟩, ⟨sR HO111.out⟩, ⟨sR HO_107001.out⟩, ⟨sB BK101.out⟩, ⟨sB BK102.out⟩, ⟨sB BK106.out⟩, ⟨by repeat (first | (with_reducible first | exact HB.out | apply sLA | apply sLN | apply sLD | refine sLS ?_ GE101.out | refine sLS ?_ GE102.out | refine sLS ?_ GE106.out) | exact HB.out)⟩⟩
      ·rw [if_neg c28] at H
       exact absurd H (by simp)
    ·replace c17 := Bool.eq_false_iff.mpr c17
     subst c17
     have H1 : (spec_l11Hear.l0 k1 x9_1 (wrap64 (x11_1 + 1)) a0_0 l0_1 l0_2 a0_0 t103) = some (r1, r2, r3, r4, r5, r6) := by rw [if_neg (show ¬ (false = true) by decide)] at H; exact H
     clear H
     have H := H1
     clear H1
     have H' := sA H
     clear H
     have hnb38 := NB101_102.out
     have hnc38 := NB102_101.out
     have hnb39 := NB101_106.out
     have hnc39 := NB106_101.out
     have hcz40_0 : wr.cell? ⟨gb101, 0, none⟩ = some (.int .i64 a0_0) := sC BK101 0 rfl
     have hcz40_1 : wr.cell? ⟨gb101, 1, none⟩ = some (.slice A0_1 l0_1.length c0_1) := sC BK101 1 rfl
     have hcz40_2 : wr.cell? ⟨gb101, 2, none⟩ = some (.slice A0_2 l0_2.length c0_2) := sC BK101 2 rfl
     have hfz40_0 := blk_frozen BK101.out 0
     have hfz40_1 := blk_frozen BK101.out 1
     have hfz40_2 := blk_frozen BK101.out 2
     have hnb41 := NB106_102.out
     have hnc41 := NB102_106.out
     have hcz42_0 : wr.cell? ⟨gb106, 0, none⟩ = some (.int .i64 a0_0) := sC BK106 0 rfl
     have hcz42_1 : wr.cell? ⟨gb106, 1, none⟩ = some (.slice Ao11 t103.length co11) := sC BK106 1 rfl
     have hcz42_2 : wr.cell? ⟨gb106, 2, none⟩ = some (.slice none 0 0) := sC BK106 2 rfl
     have hfz42_0 := blk_frozen BK106.out 0
     have hfz42_1 := blk_frozen BK106.out 1
     have hfz42_2 := blk_frozen BK106.out 2
     go_wp2_with (first | ((with_reducible refine gate_callee (f := 61) rfl ?_); refine goesL_ (some 32) rfl rfl Try.func61 (by kernel_rfl) rfl #[.slice Ao11 t103.length co11, .int .i64 x11_1] rfl (by (try simp only [List.map_toArray, List.map_cons, List.map_nil]); first | done | rfl | (simp only [List.length_drop, List.length_take]; rfl)) ?_; (with_reducible refine (spec_l2Has.calls k1 _ _ t103 x11_1 false _ ?side1 ?side2 A16.out).mono ?_); (case side1 => repeat (first | exact (Kd.R_reads' HO_107001.out).2.2 | (with_reducible refine Kd.C_alloc ?_ _) | (with_reducible refine Kd.C_drewN ?_ _) | (with_reducible refine Kd.C_drew ?_))); (case side2 => exact (Kd.R_reads' HO_107001.out).2.1); rintro e w43 ⟨rfl, hb⟩; refine ⟨_, rfl, ?_⟩; have n0_ := sA (Kd.R_below (sR HO_9.out) hb); have n1_ := sA (Kd.R_below (sR HO_107001.out) hb); have n2_ := sA (blk_below (sB BK101.out) hb); have n3_ := sA (blk_below (sB BK102.out) hb); have n4_ := sA (blk_below (sB BK106.out) hb); have n5_ := sA (below_step (by repeat (first | (with_reducible first | exact HB.out | apply sLA | apply sLN | apply sLD | refine sLS ?_ (Aside0.out (by assumption))) | exact HB.out)) hb); clear HO_9; clear HO_107001; clear BK101; clear BK102; clear BK106; clear HB; have HO_9 := n0_; have HO_107001 := n1_; have BK101 := n2_; have BK102 := n3_; have BK106 := n4_; have HB := n5_; clear n0_ n1_ n2_ n3_ n4_ n5_; (try clear hb); (try clear hb2); (try clear hk); (try clear hi)))
     go_roundg k1
     case measure => have := HK1.out; omega
     case rel => exact ⟨(x9_1), (wrap64 (x11_1 + 1)), (by first | rfl | (simp; done) | (simp [*]; done)), H', ⟨by have := HK1.out; omega⟩, ⟨sR HO_9.out⟩, ⟨sR HO_107001.out⟩, ⟨sB BK101.out⟩, ⟨sB BK102.out⟩, ⟨sB BK106.out⟩, ⟨by repeat (first | (with_reducible first | exact HB.out | apply sLA | apply sLN | apply sLD | refine sLS ?_ GE101.out | refine sLS ?_ GE102.out | refine sLS ?_ GE106.out) | exact HB.out)⟩⟩
   ·rw [if_neg c15] at H
    have c15b0 : decide (x11_1 < a0_0) = false := decide_eq_false c15
    clear c15
    have HC44 := sA H
    clear H
    have hnb45 := NB101_102.out
    have hnc45 := NB102_101.out
    have hnb46 := NB101_106.out
    have hnc46 := NB106_101.out
    have hcz47_0 : wr.cell? ⟨gb101, 0, none⟩ = some (.int .i64 a0_0) := sC BK101 0 rfl
    have hcz47_1 : wr.cell? ⟨gb101, 1, none⟩ = some (.slice A0_1 l0_1.length c0_1) := sC BK101 1 rfl
    have hcz47_2 : wr.cell? ⟨gb101, 2, none⟩ = some (.slice A0_2 l0_2.length c0_2) := sC BK101 2 rfl
    have hfz47_0 := blk_frozen BK101.out 0
    have hfz47_1 := blk_frozen BK101.out 1
    have hfz47_2 := blk_frozen BK101.out 2
    have hnb48 := NB106_102.out
    have hnc48 := NB102_106.out
    have hcz49_0 : wr.cell? ⟨gb106, 0, none⟩ = some (.int .i64 a0_0) := sC BK106 0 rfl
    have hcz49_1 : wr.cell? ⟨gb106, 1, none⟩ = some (.slice Ao11 t103.length co11) := sC BK106 1 rfl
    have hcz49_2 : wr.cell? ⟨gb106, 2, none⟩ = some (.slice none 0 0) := sC BK106 2 rfl
    have hfz49_0 := blk_frozen BK106.out 0
    have hfz49_1 := blk_frozen BK106.out 1
    have hfz49_2 := blk_frozen BK106.out 2
    go_upto_if 48 with (fail)
    go_cut [12] (fun v12 wc => ∃ (kq : Nat) (x12_43 : Int), v12 = .int .i64 x12_43 ∧ Aside0 (spec_l11Hear.j1 kq x9_1 ([] : List Int) x12_43 a0_0 l0_1 l0_2 a0_0 t103 = some (r1, r2, r3, r4, r5, r6)) ∧ Aside0 (kq ≤ k1) ∧ Aside0 (Kd.R (Kd.int .i64) 3 wc w.heap.size (fun k_ => some k_ ≠ ((.slice none 0 0) : Value).ownBlock) u9 x9_1) ∧ Aside0 (Kd.R (Kd.int .i64) 3 wc w.heap.size (fun k_ => some k_ ≠ (u9 : Value).ownBlock) (.slice none 0 0) ([] : List Int)) ∧ Aside0 (Kd.R k59 59 wc w.heap.size (fun _ => True) (.slice Ao11 t103.length co11) t103) ∧ Aside0 (wc.heap[gb101]? = some (.cells #[.int .i64 a0_0, (.slice A0_1 l0_1.length c0_1), (.slice A0_2 l0_2.length c0_2)] 31 (0, 0))) ∧ Aside0 (wc.heap[gb102]? = some (.cells #[.int .i64 0, (.slice none 0 0), (.slice none 0 0)] 31 (0, 0))) ∧ Aside0 (wc.heap[gb106]? = some (.cells #[.int .i64 a0_0, (.slice Ao11 t103.length co11), (.slice none 0 0)] 31 (0, 0))) ∧ Aside0 (Below w.heap.size w wc))
    case first =>
     have H := HC44.out
     clear HC44
     by_cases c50 : (t103.length : Int) > 0
     ·rw [if_pos c50] at H
      have c50b0 : decide (0 < (t103.length : Int)) = true := decide_eq_true c50
      have c50b1 : decide (0 < t103.length) = true := decide_eq_true (by omega)
      clear c50
      (first | rw [c50b0] | rw [c50b1] | (simp only [i64_w, i32_w]; rw [c50b0]) | skip)
      obtain ⟨ji51, hji51⟩ : ∃ j_ : Int, (wrap64 ((t103.length : Int) - 1)) = j_ := ⟨_, rfl⟩
      replace H : (if 0 ≤ (ji51) then (if (ji51) < (t103.length : Int) then (spec_l11Hear.j1 k1 x9_1 ([] : List Int) (wrap64 (((rd_T59 t103 (ji51)).f1) - 1)) a0_0 l0_1 l0_2 a0_0 t103) else (none)) else (none)) = some (r1, r2, r3, r4, r5, r6) := by first | (rw [hji51] at H; exact H) | (simp only [hji51] at H ⊢; exact H)
      have hji51w : (IntKind.i64.wrap ((t103.length : Int) - 1)) = ji51 := (i64_w _).trans hji51
      by_cases c52 : 0 ≤ (ji51)
      ·rw [if_pos c52] at H
       have c52b0 : decide (0 ≤ (ji51)) = true := decide_eq_true c52
       clear c52
       by_cases c53 : (ji51) < (t103.length : Int)
       ·rw [if_pos c53] at H
        have c53b0 : decide ((ji51) < (t103.length : Int)) = true := decide_eq_true c53
        clear c53
        have H' := sA H
        clear H
        have hnb54 := NB106_101.out
        have hnc54 := NB101_106.out
        have hnb55 := NB106_102.out
        have hnc55 := NB102_106.out
        have hcz56_0 : wr.cell? ⟨gb106, 0, none⟩ = some (.int .i64 a0_0) := sC BK106 0 rfl
        have hcz56_1 : wr.cell? ⟨gb106, 1, none⟩ = some (.slice Ao11 t103.length co11) := sC BK106 1 rfl
        have hcz56_2 : wr.cell? ⟨gb106, 2, none⟩ = some (.slice none 0 0) := sC BK106 2 rfl
        have hfz56_0 := blk_frozen BK106.out 0
        have hfz56_1 := blk_frozen BK106.out 1
        have hfz56_2 := blk_frozen BK106.out 2
        have p112 : 0 ≤ ((ji51) : Int) := of_decide_eq_true (by first | (with_reducible assumption) | assumption)
        have q112 : (ji51) < (t103.length : Int) := of_decide_eq_true (by first | (with_reducible assumption) | assumption)
        obtain ⟨ad112, e112, hx112_0, hx112_1⟩ := at_T59 (Kd.R_reads' HO_107001.out).2.2 (ji51) p112 q112
        cases e112
        replace p112 := eq_true p112
        replace q112 := eq_true q112
        go_wp2
        go_meet
        case rel => exact ⟨_, (wrap64 (((rd_T59 t103 (ji51)).f1) - 1)), (by first | rfl | (simp; done) | (simp only [← hji51] <;> (first | rfl | simp)) | (simp [*]; done)), H', ⟨by have := HK1.out; first | omega | exact Nat.le_refl _⟩, ⟨sR (Kd.R_mono HO_9.out (fun _ hk => (by simp [Value.ownBlock])))⟩, ⟨by first | exact Kd.R_nil _ _ _ _ _ | exact Kd.N_nil _ _ _ _ _ | exact Kd.V_nil _ _ _ _ _ | exact Kd.Q_nil _ _ _ _ _ | exact Kd.S_nil _ _ _ _ _⟩, ⟨sR HO_107001.out⟩, ⟨sB BK101.out⟩, ⟨sB BK102.out⟩, ⟨sB BK106.out⟩, ⟨by repeat (first | (with_reducible first | exact HB.out | apply sLA | apply sLN | apply sLD | refine sLS ?_ GE101.out | refine sLS ?_ GE102.out | refine sLS ?_ GE106.out) | exact HB.out)⟩⟩
       ·rw [if_neg c53] at H
        exact absurd H (by simp)
      ·rw [if_neg c52] at H
       exact absurd H (by simp)
     ·rw [if_neg c50] at H
      have c50b0 : decide (0 < (t103.length : Int)) = false := decide_eq_false c50
      have c50b1 : decide (0 < t103.length) = false := decide_eq_false (by omega)
      clear c50
      (first | rw [c50b0] | rw [c50b1] | (simp only [i64_w, i32_w]; rw [c50b0]) | skip)
      have H' := sA H
      clear H
      go_wp2
      go_meet
      case rel => exact ⟨_, ((-1)), (by first | rfl | (simp; done) | (simp [*]; done)), H', ⟨by have := HK1.out; first | omega | exact Nat.le_refl _⟩, ⟨sR (Kd.R_mono HO_9.out (fun _ hk => (by simp [Value.ownBlock])))⟩, ⟨by first | exact Kd.R_nil _ _ _ _ _ | exact Kd.N_nil _ _ _ _ _ | exact Kd.V_nil _ _ _ _ _ | exact Kd.Q_nil _ _ _ _ _ | exact Kd.S_nil _ _ _ _ _⟩, ⟨sR HO_107001.out⟩, ⟨sB BK101.out⟩, ⟨sB BK102.out⟩, ⟨sB BK106.out⟩, ⟨by repeat (first | (with_reducible first | exact HB.out | apply sLA | apply sLN | apply sLD | refine sLS ?_ GE101.out | refine sLS ?_ GE102.out | refine sLS ?_ GE106.out) | exact HB.out)⟩⟩
    case rest =>
     clear HC44
     try clear c1
     try clear p1
     try clear q1
     try clear hx1
     try clear c2
     try clear p2
     try clear c3
     try clear c4
     try clear c5
     try clear c6
     try clear p6
     try clear p11
     try clear q11
     try clear hx11
     try clear c15
     try clear c15b0
     try clear c17
     try clear c19
     try clear c20
     try clear c21
     try clear c23
     try clear c28
     try clear c29
     try clear c30
     try clear c32
     try clear c38
     try clear c39
     try clear c41
     try clear c45
     try clear c46
     try clear c48
     try clear c50
     try clear c50b0
     try clear c50b1
     try clear c52
     try clear c52b0
     try clear c53
     try clear c53b0
     try clear c54
     try clear c55
     try clear hcz22_0
     try clear hcz22_1
     try clear hcz22_2
     try clear hcz24_0
     try clear hcz24_1
     try clear hcz24_2
     try clear hcz26_0
     try clear hcz26_1
     try clear hcz26_2
     try clear hcz31_0
     try clear hcz31_1
     try clear hcz31_2
     try clear hcz33_0
     try clear hcz33_1
     try clear hcz33_2
     try clear hcz35_0
     try clear hcz35_1
     try clear hcz35_2
     try clear hcz40_0
     try clear hcz40_1
     try clear hcz40_2
     try clear hcz42_0
     try clear hcz42_1
     try clear hcz42_2
     try clear hcz47_0
     try clear hcz47_1
     try clear hcz47_2
     try clear hcz49_0
     try clear hcz49_1
     try clear hcz49_2
     try clear hcz56_0
     try clear hcz56_1
     try clear hcz56_2
     try clear hfz22_0
     try clear hfz22_1
     try clear hfz22_2
     try clear hfz24_0
     try clear hfz24_1
     try clear hfz24_2
     try clear hfz26_0
     try clear hfz26_1
     try clear hfz26_2
     try clear hfz31_0
     try clear hfz31_1
     try clear hfz31_2
     try clear hfz33_0
     try clear hfz33_1
     try clear hfz33_2
     try clear hfz35_0
     try clear hfz35_1
     try clear hfz35_2
     try clear hfz40_0
     try clear hfz40_1
     try clear hfz40_2
     try clear hfz42_0
     try clear hfz42_1
     try clear hfz42_2
     try clear hfz47_0
     try clear hfz47_1
     try clear hfz47_2
     try clear hfz49_0
     try clear hfz49_1
     try clear hfz49_2
     try clear hfz56_0
     try clear hfz56_1
     try clear hfz56_2
     try clear hx112_0
     try clear hx112_1
     try clear p112
     try clear p2
     try clear q112
     obtain ⟨kq, x12_43, rfl, HA, HJ43, HO_9, HO_10, HO_107001, BK101, BK102, BK106, HB⟩ := hcut
     cases kq with
     | zero => exact absurd HA.out (by simp [spec_l11Hear.j1])
     | succ kj43 =>
      have H := HA.out
      clear HA
      simp only [spec_l11Hear.j1] at H
      have H' := sA H
      clear H
      go_wp2
      go_loopg [10, 14] kj43 (fun kq v10 v14 w' => ∃ (x10_3 : List Int) (x14_3 : Int) (x107002_3 : List Int) (u107002 : Value), v14 = .int .i64 x14_3 ∧ Aside0 (spec_l11Hear.l1 kq x9_1 x10_3 x12_43 x14_3 a0_0 l0_1 l0_2 a0_0 t103 x107002_3 = some (r1, r2, r3, r4, r5, r6)) ∧ Aside0 (kq ≤ kj43) ∧ Aside0 (Kd.R (Kd.int .i64) 3 w' w.heap.size (fun k_ => some k_ ≠ (v10 : Value).ownBlock ∧ some k_ ≠ (u107002 : Value).ownBlock) u9 x9_1) ∧ Aside0 (Kd.R (Kd.int .i64) 3 w' w.heap.size (fun k_ => some k_ ≠ (u9 : Value).ownBlock ∧ some k_ ≠ (u107002 : Value).ownBlock) v10 x10_3) ∧ Aside0 (Kd.R k59 59 w' w.heap.size (fun _ => True) (.slice Ao11 t103.length co11) t103) ∧ Aside0 (Kd.R (Kd.int .i64) 3 w' w.heap.size (fun k_ => some k_ ≠ (u9 : Value).ownBlock ∧ some k_ ≠ (v10 : Value).ownBlock) u107002 x107002_3) ∧ Aside0 (w'.heap[gb101]? = some (.cells #[.int .i64 a0_0, (.slice A0_1 l0_1.length c0_1), (.slice A0_2 l0_2.length c0_2)] 31 (0, 0))) ∧ Aside0 (w'.heap[gb102]? = some (.cells #[.int .i64 0, (.slice none 0 0), (.slice none 0 0)] 31 (0, 0))) ∧ Aside0 (w'.heap[gb106]? = some (.cells #[.int .i64 a0_0, (.slice Ao11 t103.length co11), u107002] 31 (0, 0))) ∧ Aside0 (Below w.heap.size w w'))
      case atStart => exact ⟨(([] : List Int)), (0), (([] : List Int)), (.slice none 0 0), (by first | rfl | (simp; done) | (simp [*]; done)), H', ⟨Nat.le_refl _⟩, ⟨sR (Kd.R_mono HO_9.out (fun _ hk => ⟨hk, (by simp [Value.ownBlock])⟩))⟩, ⟨sR (Kd.R_mono HO_10.out (fun _ hk => ⟨hk, (by simp [Value.ownBlock])⟩))⟩, ⟨sR HO_107001.out⟩, ⟨by first | exact Kd.R_nil _ _ _ _ _ | exact Kd.N_nil _ _ _ _ _ | exact Kd.V_nil _ _ _ _ _ | exact Kd.Q_nil _ _ _ _ _ | exact Kd.S_nil _ _ _ _ _⟩, ⟨sB BK101.out⟩, ⟨sB BK102.out⟩, ⟨sB BK106.out⟩, ⟨by repeat (first | (with_reducible first | exact HB.out | apply sLA | apply sLN | apply sLD | refine sLS ?_ GE101.out | refine sLS ?_ GE102.out | refine sLS ?_ GE106.out) | exact HB.out)⟩⟩
      case round =>
       clear H'
       try clear c1
       try clear p1
       try clear q1
       try clear hx1
       try clear c2
       try clear p2
       try clear c3
       try clear c4
       try clear c5
       try clear c6
       try clear p6
       try clear p11
       try clear q11
       try clear hx11
       try clear c15
       try clear c15b0
       try clear c17
       try clear c19
       try clear c20
       try clear c21
       try clear c23
       try clear c28
       try clear c29
       try clear c30
       try clear c32
       try clear c38
       try clear c39
       try clear c41
       try clear c45
       try clear c46
       try clear c48
       try clear c50
       try clear c50b0
       try clear c50b1
       try clear c52
       try clear c52b0
       try clear c53
       try clear c53b0
       try clear c54
       try clear c55
       try clear hcz22_0
       try clear hcz22_1
       try clear hcz22_2
       try clear hcz24_0
       try clear hcz24_1
       try clear hcz24_2
       try clear hcz26_0
       try clear hcz26_1
       try clear hcz26_2
       try clear hcz31_0
       try clear hcz31_1
       try clear hcz31_2
       try clear hcz33_0
       try clear hcz33_1
       try clear hcz33_2
       try clear hcz35_0
       try clear hcz35_1
       try clear hcz35_2
       try clear hcz40_0
       try clear hcz40_1
       try clear hcz40_2
       try clear hcz42_0
       try clear hcz42_1
       try clear hcz42_2
       try clear hcz47_0
       try clear hcz47_1
       try clear hcz47_2
       try clear hcz49_0
       try clear hcz49_1
       try clear hcz49_2
       try clear hcz56_0
       try clear hcz56_1
       try clear hcz56_2
       try clear hfz22_0
       try clear hfz22_1
       try clear hfz22_2
       try clear hfz24_0
       try clear hfz24_1
       try clear hfz24_2
       try clear hfz26_0
       try clear hfz26_1
       try clear hfz26_2
       try clear hfz31_0
       try clear hfz31_1
       try clear hfz31_2
       try clear hfz33_0
       try clear hfz33_1
       try clear hfz33_2
       try clear hfz35_0
       try clear hfz35_1
       try clear hfz35_2
       try clear hfz40_0
       try clear hfz40_1
       try clear hfz40_2
       try clear hfz42_0
       try clear hfz42_1
       try clear hfz42_2
       try clear hfz47_0
       try clear hfz47_1
       try clear hfz47_2
       try clear hfz49_0
       try clear hfz49_1
       try clear hfz49_2
       try clear hfz56_0
       try clear hfz56_1
       try clear hfz56_2
       try clear hx112_0
       try clear hx112_1
       try clear p1
       try clear p11
       try clear p112
       try clear p2
       try clear p6
       try clear q1
       try clear q11
       try clear q112
       obtain ⟨x10_3, x14_3, x107002_3, u107002, rfl, HA, HK3, HO_9, HO_10, HO_107001, HO_107002, BK101, BK102, BK106, HB⟩ := hrel
       cases gk with
       | zero => exact absurd HA.out (by simp [spec_l11Hear.l1])
       | succ k3 =>
        have H := HA.out
        clear HA
        simp only [spec_l11Hear.l1] at H
        by_cases c57 : x14_3 < a0_0
        ·rw [if_pos c57] at H
         have c57b0 : decide (x14_3 < a0_0) = true := decide_eq_true c57
         clear c57
         replace H := Option.bind_eq_some_iff.mp H
         obtain ⟨t113, A580, H⟩ := H
         replace H : (if t113 = true then (spec_l11Hear.l1 k3 x9_1 x10_3 x12_43 (wrap64 (x14_3 + 1)) a0_0 l0_1 l0_2 a0_0 t103 x107002_3) else ((spec_l1Has.f k3 l0_2 x14_3).bind fun t114 => (if t114 = true then (spec_l11Hear.j3 k3 x9_1 x10_3 x12_43 x14_3 t114 true a0_0 l0_1 l0_2 a0_0 t103 x107002_3) else (spec_l11Hear.j3 k3 x9_1 x10_3 x12_43 x14_3 t114 (decide (x12_43 ≥ (wrap64 (x14_3 + 3)))) a0_0 l0_1 l0_2 a0_0 t103 x107002_3)))) = some (r1, r2, r3, r4, r5, r6) := H
         have A58 := sA A580
         clear A580
         by_cases c59 : t113 = true
         ·subst c59
          have H1 : (spec_l11Hear.l1 k3 x9_1 x10_3 x12_43 (wrap64 (x14_3 + 1)) a0_0 l0_1 l0_2 a0_0 t103 x107002_3) = some (r1, r2, r3, r4, r5, r6) := by rw [if_pos rfl] at H; exact H
          clear H
          have H := H1
          clear H1
          have H' := sA H
          clear H
          have hnb60 := NB101_102.out
          have hnc60 := NB102_101.out
          have hnb61 := NB101_106.out
          have hnc61 := NB106_101.out
          have hcz62_0 : wr.cell? ⟨gb101, 0, none⟩ = some (.int .i64 a0_0) := sC BK101 0 rfl
          have hcz62_1 : wr.cell? ⟨gb101, 1, none⟩ = some (.slice A0_1 l0_1.length c0_1) := sC BK101 1 rfl
          have hcz62_2 : wr.cell? ⟨gb101, 2, none⟩ = some (.slice A0_2 l0_2.length c0_2) := sC BK101 2 rfl
          have hfz62_0 := blk_frozen BK101.out 0
          have hfz62_1 := blk_frozen BK101.out 1
          have hfz62_2 := blk_frozen BK101.out 2
          have hnb63 := NB106_102.out
          have hnc63 := NB102_106.out
          have hcz64_0 : wr.cell? ⟨gb106, 0, none⟩ = some (.int .i64 a0_0) := sC BK106 0 rfl
          have hcz64_1 : wr.cell? ⟨gb106, 1, none⟩ = some (.slice Ao11 t103.length co11) := sC BK106 1 rfl
          have hcz64_2 : wr.cell? ⟨gb106, 2, none⟩ = some (u107002) := sC BK106 2 rfl
          have hfz64_0 := blk_frozen BK106.out 0
          have hfz64_1 := blk_frozen BK106.out 1
          have hfz64_2 := blk_frozen BK106.out 2
          go_wp2_with (first | ((with_reducible refine gate_callee (f := 61) rfl ?_); refine goesL_ (some 66) rfl rfl Try.func61 (by kernel_rfl) rfl #[.slice Ao11 t103.length co11, .int .i64 x14_3] rfl (by (try simp only [List.map_toArray, List.map_cons, List.map_nil]); first | done | rfl | (simp only [List.length_drop, List.length_take]; rfl)) ?_; (with_reducible refine (spec_l2Has.calls k3 _ _ t103 x14_3 true _ ?side1 ?side2 A58.out).mono ?_); (case side1 => repeat (first | exact (Kd.R_reads' HO_107001.out).2.2 | (with_reducible refine Kd.C_alloc ?_ _) | (with_reducible refine Kd.C_drewN ?_ _) | (with_reducible refine Kd.C_drew ?_))); (case side2 => exact (Kd.R_reads' HO_107001.out).2.1); rintro e w65 ⟨rfl, hb⟩; refine ⟨_, rfl, ?_⟩; have n0_ := sA (Kd.R_below (sR HO_9.out) hb); have n1_ := sA (Kd.R_below (sR HO_10.out) hb); have n2_ := sA (Kd.R_below (sR HO_107001.out) hb); have n3_ := sA (Kd.R_below (sR HO_107002.out) hb); have n4_ := sA (blk_below (sB BK101.out) hb); have n5_ := sA (blk_below (sB BK102.out) hb); have n6_ := sA (blk_below (sB BK106.out) hb); have n7_ := sA (below_step (by repeat (first | (with_reducible first | exact HB.out | apply sLA | apply sLN | apply sLD | refine sLS ?_ (Aside0.out (by assumption))) | exact HB.out)) hb); clear HO_9; clear HO_10; clear HO_107001; clear HO_107002; clear BK101; clear BK102; clear BK106; clear HB; have HO_9 := n0_; have HO_10 := n1_; have HO_107001 := n2_; have HO_107002 := n3_; have BK101 := n4_; have BK102 := n5_; have BK106 := n6_; have HB := n7_; clear n0_ n1_ n2_ n3_ n4_ n5_ n6_ n7_; (try clear hb); (try clear hb2); (try clear hk); (try clear hi)))
          go_roundg k3
          case measure => have := HK1.out; have := HJ43.out; have := HK3.out; omega
          case rel => exact ⟨(x10_3), (wrap64 (x14_3 + 1)), (x107002_3), (u107002), (by first | rfl | (simp; done) | (simp [*]; done)), H', ⟨by have := HK1.out; have := HJ43.out; have := HK3.out; omega⟩, ⟨sR HO_9.out⟩, ⟨sR HO_10.out⟩, ⟨sR HO_107001.out⟩, ⟨sR HO_107002.out⟩, ⟨sB BK101.out⟩, ⟨sB BK102.out⟩, ⟨sB BK106.out⟩, ⟨by repeat (first | (with_reducible first | exact HB.out | apply sLA | apply sLN | apply sLD | refine sLS ?_ GE101.out | refine sLS ?_ GE102.out | refine sLS ?_ GE106.out) | exact HB.out)⟩⟩
         ·replace c59 := Bool.eq_false_iff.mpr c59
          subst c59
          have H1 : ((spec_l1Has.f k3 l0_2 x14_3).bind fun t114 => (if t114 = true then (spec_l11Hear.j3 k3 x9_1 x10_3 x12_43 x14_3 t114 true a0_0 l0_1 l0_2 a0_0 t103 x107002_3) else (spec_l11Hear.j3 k3 x9_1 x10_3 x12_43 x14_3 t114 (decide (x12_43 ≥ (wrap64 (x14_3 + 3)))) a0_0 l0_1 l0_2 a0_0 t103 x107002_3))) = some (r1, r2, r3, r4, r5, r6) := by rw [if_neg (show ¬ (false = true) by decide)] at H; exact H
          clear H
          have H := H1
          clear H1
          replace H := Option.bind_eq_some_iff.mp H
          obtain ⟨t114, A660, H⟩ := H
          replace H : (if t114 = true then (spec_l11Hear.j3 k3 x9_1 x10_3 x12_43 x14_3 t114 true a0_0 l0_1 l0_2 a0_0 t103 x107002_3) else (spec_l11Hear.j3 k3 x9_1 x10_3 x12_43 x14_3 t114 (decide (x12_43 ≥ (wrap64 (x14_3 + 3)))) a0_0 l0_1 l0_2 a0_0 t103 x107002_3)) = some (r1, r2, r3, r4, r5, r6) := H
          have A66 := sA A660
          clear A660
          have HC67 := sA H
          clear H
          have hnb68 := NB101_102.out
          have hnc68 := NB102_101.out
          have hnb69 := NB101_106.out
          have hnc69 := NB106_101.out
          have hcz70_0 : wr.cell? ⟨gb101, 0, none⟩ = some (.int .i64 a0_0) := sC BK101 0 rfl
          have hcz70_1 : wr.cell? ⟨gb101, 1, none⟩ = some (.slice A0_1 l0_1.length c0_1) := sC BK101 1 rfl
          have hcz70_2 : wr.cell? ⟨gb101, 2, none⟩ = some (.slice A0_2 l0_2.length c0_2) := sC BK101 2 rfl
          have hfz70_0 := blk_frozen BK101.out 0
          have hfz70_1 := blk_frozen BK101.out 1
          have hfz70_2 := blk_frozen BK101.out 2
          have hnb71 := NB106_102.out
          have hnc71 := NB102_106.out
          have hcz72_0 : wr.cell? ⟨gb106, 0, none⟩ = some (.int .i64 a0_0) := sC BK106 0 rfl
          have hcz72_1 : wr.cell? ⟨gb106, 1, none⟩ = some (.slice Ao11 t103.length co11) := sC BK106 1 rfl
          have hcz72_2 : wr.cell? ⟨gb106, 2, none⟩ = some (u107002) := sC BK106 2 rfl
          have hfz72_0 := blk_frozen BK106.out 0
          have hfz72_1 := blk_frozen BK106.out 1
          have hfz72_2 := blk_frozen BK106.out 2
          go_upto_region 17 with (first | ((with_reducible refine gate_callee (f := 61) rfl ?_); refine goesL_ (some 66) rfl rfl Try.func61 (by kernel_rfl) rfl #[.slice Ao11 t103.length co11, .int .i64 x14_3] rfl (by (try simp only [List.map_toArray, List.map_cons, List.map_nil]); first | done | rfl | (simp only [List.length_drop, List.length_take]; rfl)) ?_; (with_reducible refine (spec_l2Has.calls k3 _ _ t103 x14_3 false _ ?side1 ?side2 A58.out).mono ?_); (case side1 => repeat (first | exact (Kd.R_reads' HO_107001.out).2.2 | (with_reducible refine Kd.C_alloc ?_ _) | (with_reducible refine Kd.C_drewN ?_ _) | (with_reducible refine Kd.C_drew ?_))); (case side2 => exact (Kd.R_reads' HO_107001.out).2.1); rintro e w73 ⟨rfl, hb⟩; refine ⟨_, rfl, ?_⟩; have n0_ := sA (Kd.R_below (sR HO_9.out) hb); have n1_ := sA (Kd.R_below (sR HO_10.out) hb); have n2_ := sA (Kd.R_below (sR HO_107001.out) hb); have n3_ := sA (Kd.R_below (sR HO_107002.out) hb); have n4_ := sA (blk_below (sB BK101.out) hb); have n5_ := sA (blk_below (sB BK102.out) hb); have n6_ := sA (blk_below (sB BK106.out) hb); have n7_ := sA (below_step (by repeat (first | (with_reducible first | exact HB.out | apply sLA | apply sLN | apply sLD | refine sLS ?_ (Aside0.out (by assumption))) | exact HB.out)) hb); clear HO_9; clear HO_10; clear HO_107001; clear HO_107002; clear BK101; clear BK102; clear BK106; clear HB; have HO_9 := n0_; have HO_10 := n1_; have HO_107001 := n2_; have HO_107002 := n3_; have BK101 := n4_; have BK102 := n5_; have BK106 := n6_; have HB := n7_; clear n0_ n1_ n2_ n3_ n4_ n5_ n6_ n7_; (try clear hb); (try clear hb2); (try clear hk); (try clear hi); have hcz74_0 : w73.cell? ⟨gb101, 0, none⟩ = some (.int .i64 a0_0) := sC BK101 0 rfl; have hcz74_1 : w73.cell? ⟨gb101, 1, none⟩ = some (.slice A0_1 l0_1.length c0_1) := sC BK101 1 rfl; have hcz74_2 : w73.cell? ⟨gb101, 2, none⟩ = some (.slice A0_2 l0_2.length c0_2) := sC BK101 2 rfl; have hfz74_0 := blk_frozen BK101.out 0; have hfz74_1 := blk_frozen BK101.out 1; have hfz74_2 := blk_frozen BK101.out 2) | ((with_reducible refine gate_callee (f := 62) rfl ?_); refine goesL_ (some 70) rfl rfl Try.func62 (by kernel_rfl) rfl #[.slice A0_2 l0_2.length c0_2, .int .i64 x14_3] rfl (by (try simp only [List.map_toArray, List.map_cons, List.map_nil]); first | done | rfl | (simp only [List.length_drop, List.length_take]; rfl)) ?_; (with_reducible refine (spec_l1Has.calls k3 _ _ l0_2 x14_3 t114 _ ?side1 ?side2 A66.out).mono ?_); (case side1 => repeat (first | exact (Kd.C_below HR0_2.out HB.out) | (with_reducible refine Kd.C_alloc ?_ _) | (with_reducible refine Kd.C_drewN ?_ _) | (with_reducible refine Kd.C_drew ?_))); (case side2 => exact HC0_2.out); rintro e w' ⟨rfl, ⟨nd, rfl⟩⟩; refine ⟨_, rfl, ?_⟩))
          (try simp only [Act.put, sI, sZ, sV])
          go_cut [77] (fun v77 wc => ∃ (kq : Nat) (x77_66 : Bool), v77 = .bool x77_66 ∧ Aside0 (spec_l11Hear.j3 kq x9_1 x10_3 x12_43 x14_3 t114 x77_66 a0_0 l0_1 l0_2 a0_0 t103 x107002_3 = some (r1, r2, r3, r4, r5, r6)) ∧ Aside0 (kq ≤ k3) ∧ Aside0 (Kd.R (Kd.int .i64) 3 wc w.heap.size (fun k_ => some k_ ≠ (u10 : Value).ownBlock ∧ some k_ ≠ (u107002 : Value).ownBlock) u9 x9_1) ∧ Aside0 (Kd.R (Kd.int .i64) 3 wc w.heap.size (fun k_ => some k_ ≠ (u9 : Value).ownBlock ∧ some k_ ≠ (u107002 : Value).ownBlock) u10 x10_3) ∧ Aside0 (Kd.R k59 59 wc w.heap.size (fun _ => True) (.slice Ao11 t103.length co11) t103) ∧ Aside0 (Kd.R (Kd.int .i64) 3 wc w.heap.size (fun k_ => some k_ ≠ (u9 : Value).ownBlock ∧ some k_ ≠ (u10 : Value).ownBlock) u107002 x107002_3) ∧ Aside0 (wc.heap[gb101]? = some (.cells #[.int .i64 a0_0, (.slice A0_1 l0_1.length c0_1), (.slice A0_2 l0_2.length c0_2)] 31 (0, 0))) ∧ Aside0 (wc.heap[gb102]? = some (.cells #[.int .i64 0, (.slice none 0 0), (.slice none 0 0)] 31 (0, 0))) ∧ Aside0 (wc.heap[gb106]? = some (.cells #[.int .i64 a0_0, (.slice Ao11 t103.length co11), u107002] 31 (0, 0))) ∧ Aside0 (Below w.heap.size w wc))
          case first =>
           have H := HC67.out
           clear HC67
           by_cases c75 : t114 = true
           ·subst c75
            have H1 : (spec_l11Hear.j3 k3 x9_1 x10_3 x12_43 x14_3 true true a0_0 l0_1 l0_2 a0_0 t103 x107002_3) = some (r1, r2, r3, r4, r5, r6) := by rw [if_pos rfl] at H; exact H
            clear H
            have H := H1
            clear H1
            have H' := sA H
            clear H
            go_wp2
            go_meet
            case rel => exact ⟨_, (true), (by first | rfl | (simp; done) | (simp [*]; done)), H', ⟨by have := HK1.out; have := HJ43.out; have := HK3.out; first | omega | exact Nat.le_refl _⟩, ⟨sR HO_9.out⟩, ⟨sR HO_10.out⟩, ⟨sR HO_107001.out⟩, ⟨sR HO_107002.out⟩, ⟨sB BK101.out⟩, ⟨sB BK102.out⟩, ⟨sB BK106.out⟩, ⟨by repeat (first | (with_reducible first | exact HB.out | apply sLA | apply sLN | apply sLD | refine sLS ?_ GE101.out | refine sLS ?_ GE102.out | refine sLS ?_ GE106.out) | exact HB.out)⟩⟩
           ·replace c75 := Bool.eq_false_iff.mpr c75
            subst c75
            have H1 : (spec_l11Hear.j3 k3 x9_1 x10_3 x12_43 x14_3 false (decide (x12_43 ≥ (wrap64 (x14_3 + 3)))) a0_0 l0_1 l0_2 a0_0 t103 x107002_3) = some (r1, r2, r3, r4, r5, r6) := by rw [if_neg (show ¬ (false = true) by decide)] at H; exact H
            clear H
            have H := H1
            clear H1
            have H' := sA H
            clear H
            go_wp2
            go_meet
            case rel => exact ⟨_, (decide (x12_43 ≥ (wrap64 (x14_3 + 3)))), (by first | rfl | (simp; done) | (simp [*]; done)), H', ⟨by have := HK1.out; have := HJ43.out; have := HK3.out; first | omega | exact Nat.le_refl _⟩, ⟨sR HO_9.out⟩, ⟨sR HO_10.out⟩, ⟨sR HO_107001.out⟩, ⟨sR HO_107002.out⟩, ⟨sB BK101.out⟩, ⟨sB BK102.out⟩, ⟨sB BK106.out⟩, ⟨by repeat (first | (with_reducible first | exact HB.out | apply sLA | apply sLN | apply sLD | refine sLS ?_ GE101.out | refine sLS ?_ GE102.out | refine sLS ?_ GE106.out) | exact HB.out)⟩⟩
          case rest =>
           clear HC67
           try clear c1
           try clear p1
           try clear q1
           try clear hx1
           try clear c2
           try clear p2
           try clear c3
           try clear c4
           try clear c5
           try clear c6
           try clear p6
           try clear c7
           try clear p11
           try clear q11
           try clear hx11
           try clear c15
           try clear c15b0
           try clear c17
           try clear c19
           try clear c20
           try clear c21
           try clear c23
           try clear c28
           try clear c29
           try clear c30
           try clear c32
           try clear c38
           try clear c39
           try clear c41
           try clear c45
           try clear c46
           try clear c48
           try clear c50
           try clear c50b0
           try clear c50b1
           try clear c52
           try clear c52b0
           try clear c53
           try clear c53b0
           try clear c54
           try clear c55
           try clear c57
           try clear c57b0
           try clear c59
           try clear c60
           try clear c61
           try clear c62
           try clear c63
           try clear p64
           try clear c68
           try clear c69
           try clear c71
           try clear c75
           try clear hcz22_0
           try clear hcz22_1
           try clear hcz22_2
           try clear hcz24_0
           try clear hcz24_1
           try clear hcz24_2
           try clear hcz26_0
           try clear hcz26_1
           try clear hcz26_2
           try clear hcz31_0
           try clear hcz31_1
           try clear hcz31_2
           try clear hcz33_0
           try clear hcz33_1
           try clear hcz33_2
           try clear hcz35_0
           try clear hcz35_1
           try clear hcz35_2
           try clear hcz40_0
           try clear hcz40_1
           try clear hcz40_2
           try clear hcz42_0
           try clear hcz42_1
           try clear hcz42_2
           try clear hcz47_0
           try clear hcz47_1
           try clear hcz47_2
           try clear hcz49_0
           try clear hcz49_1
           try clear hcz49_2
           try clear hcz56_0
           try clear hcz56_1
           try clear hcz56_2
           try clear hcz62_0
           try clear hcz62_1
           try clear hcz62_2
           try clear hcz64_0
           try clear hcz64_1
           try clear hcz64_2
           try clear hcz70_0
           try clear hcz70_1
           try clear hcz70_2
           try clear hcz72_0
           try clear hcz72_1
           try clear hcz72_2
           try clear hcz74_0
           try clear hcz74_1
           try clear hcz74_2
           try clear hfz22_0
           try clear hfz22_1
           try clear hfz22_2
           try clear hfz24_0
           try clear hfz24_1
           try clear hfz24_2
           try clear hfz26_0
           try clear hfz26_1
           try clear hfz26_2
           try clear hfz31_0
           try clear hfz31_1
           try clear hfz31_2
           try clear hfz33_0
           try clear hfz33_1
           try clear hfz33_2
           try clear hfz35_0
           try clear hfz35_1
           try clear hfz35_2
           try clear hfz40_0
           try clear hfz40_1
           try clear hfz40_2
           try clear hfz42_0
           try clear hfz42_1
           try clear hfz42_2
           try clear hfz47_0
           try clear hfz47_1
           try clear hfz47_2
           try clear hfz49_0
           try clear hfz49_1
           try clear hfz49_2
           try clear hfz56_0
           try clear hfz56_1
           try clear hfz56_2
           try clear hfz62_0
           try clear hfz62_1
           try clear hfz62_2
           try clear hfz64_0
           try clear hfz64_1
           try clear hfz64_2
           try clear hfz70_0
           try clear hfz70_1
           try clear hfz70_2
           try clear hfz72_0
           try clear hfz72_1
           try clear hfz72_2
           try clear hfz74_0
           try clear hfz74_1
           try clear hfz74_2
           try clear hx112_0
           try clear hx112_1
           try clear p1
           try clear p11
           try clear p112
           try clear p2
           try clear p6
           try clear q1
           try clear q11
           try clear q112
           obtain ⟨kq, x77_66, rfl, HA, HJ66, HO_9, HO_10, HO_107001, HO_107002, BK101, BK102, BK106, HB⟩ := hcut
           cases kq with
           | zero => exact absurd HA.out (by simp [spec_l11Hear.j3])
           | succ kj66 =>
            have H := HA.out
            clear HA
            simp only [spec_l11Hear.j3] at H
            by_cases c76 : x77_66 = true
            ·subst c76
             have H1 : (if x107002_3.length < 17592186044416 then ((some (x107002_3 ++ [x14_3] : List Int)).bind fun y115 => (if t114 = true then (spec_l11Hear.l1 kj66 x9_1 x10_3 x12_43 (wrap64 (x14_3 + 1)) a0_0 l0_1 l0_2 a0_0 t103 y115) else (if x12_43 ≥ (wrap64 (x14_3 + 3)) then (if x10_3.length < 17592186044416 then (spec_l11Hear.l1 kj66 x9_1 (x10_3 ++ [x14_3]) x12_43 (wrap64 (x14_3 + 1)) a0_0 l0_1 l0_2 a0_0 t103 y115) else (none)) else (spec_l11Hear.l1 kj66 x9_1 x10_3 x12_43 (wrap64 (x14_3 + 1)) a0_0 l0_1 l0_2 a0_0 t103 y115)))) else (none)) = some (r1, r2, r3, r4, r5, r6) := by rw [if_pos rfl] at H; exact H
             clear H
             have H := H1
             clear H1
             by_cases c77 : x107002_3.length < 17592186044416
             ·rw [if_pos c77] at H
              have LMc77 := sA c77
              clear c77
              obtain ⟨y115, hy115⟩ : ∃ y_ : List Int, y_ = (x107002_3 ++ [x14_3]) := ⟨_, rfl⟩
              replace H : (if t114 = true then (spec_l11Hear.l1 kj66 x9_1 x10_3 x12_43 (wrap64 (x14_3 + 1)) a0_0 l0_1 l0_2 a0_0 t103 y115) else (if x12_43 ≥ (wrap64 (x14_3 + 3)) then (if x10_3.length < 17592186044416 then (spec_l11Hear.l1 kj66 x9_1 (x10_3 ++ [x14_3]) x12_43 (wrap64 (x14_3 + 1)) a0_0 l0_1 l0_2 a0_0 t103 y115) else (none)) else (spec_l11Hear.l1 kj66 x9_1 x10_3 x12_43 (wrap64 (x14_3 + 1)) a0_0 l0_1 l0_2 a0_0 t103 y115))) = some (r1, r2, r3, r4, r5, r6) := by first | (rw [hy115]; with_reducible exact H) | (have H2_ := (Option.bind_some _ _).symm.trans H; rw [hy115]; with_reducible exact H2_) | (have H2_ := (Option.bind_some _ _).symm.trans H; with_reducible exact H2_) | with_reducible exact H | (rw [hy115]; exact H) | exact H
              have Ny115 := sA hy115
              clear hy115
              by_cases c78 : t114 = true
              ·subst c78
               have H1 : (spec_l11Hear.l1 kj66 x9_1 x10_3 x12_43 (wrap64 (x14_3 + 1)) a0_0 l0_1 l0_2 a0_0 t103 y115) = some (r1, r2, r3, r4, r5, r6) := by rw [if_pos rfl] at H; exact H
               clear H
               have H := H1
               clear H1
               have H' := sA H
               clear H
               have hnb79 := NB106_101.out
               have hnc79 := NB101_106.out
               have hnb80 := NB106_102.out
               have hnc80 := NB102_106.out
               have hcz81_0 : wc.cell? ⟨gb106, 0, none⟩ = some (.int .i64 a0_0) := sC BK106 0 rfl
               have hcz81_1 : wc.cell? ⟨gb106, 1, none⟩ = some (.slice Ao11 t103.length co11) := sC BK106 1 rfl
               have hcz81_2 : wc.cell? ⟨gb106, 2, none⟩ = some (u107002) := sC BK106 2 rfl
               have hfz81_0 := blk_frozen BK106.out 0
               have hfz81_1 := blk_frozen BK106.out 1
               have hfz81_2 := blk_frozen BK106.out 2
               go_wp2_with (first | ((with_reducible refine gate_builtin (b := .append) (xs := #[.tmp 79, .tmp 81]) rfl ?_); at_builtin; refine Kd.R_append (Kd.int .i64) (w0 := w) w.heap.size rfl (.tmp 79) (.tmp 81) 23 3 (.int .i64 0) 8 rfl Try.underlying23 info3 rfl (by decide) (by omega) u107002 x107002_3 x14_3 [.int .i64 x14_3] (fun k_ => some k_ ≠ (u9 : Value).ownBlock ∧ some k_ ≠ (u10 : Value).ownBlock) (fun _ => False) rfl rfl ?aP (fun _ hk => hk.elim) ?aF ?aO ?aB ?aS ?aL ?_; (case aP => exact rfl); (case aB => exact (by repeat (first | (with_reducible first | exact HB.out | apply sLA | apply sLN | apply sLD | refine sLS ?_ (Aside0.out (by assumption))) | exact HB.out))); (case aF => exact (fun k_ hk => ⟨Kd.fresh' (Kd.R_lt (sR HO_9.out)) k_ hk, Kd.fresh' (Kd.R_lt (sR HO_10.out)) k_ hk⟩)); (case aO => exact (sR HO_107002.out)); (case aS => exact (below_size (by repeat (first | (with_reducible first | exact HB.out | apply sLA | apply sLN | apply sLD | refine sLS ?_ (Aside0.out (by assumption))) | exact HB.out)))); (case aL => have := LMc77.out; omega); intro v116 w82 ho hb hg hat; rw [← Ny115.out] at ho; have n0_ := sA (Kd.R_after (ok := (fun k_ => some k_ ≠ (u10 : Value).ownBlock)) (sR HO_9.out) hg hat); have n1_ := sA (Kd.R_after (ok := (fun k_ => some k_ ≠ (u9 : Value).ownBlock)) (sR HO_10.out) hg hat); have n2_ := sA (Kd.R_over' (sR HO_107001.out) (Kd.R_typed (sR HO_107002.out)) (by decide) hg); have n3_ := sA (blk_grown (g := gb101) (o := .cells #[.int .i64 a0_0, .slice A0_1 l0_1.length c0_1, .slice A0_2 l0_2.length c0_2] 31 (0, 0)) (sB BK101.out) hg (Kd.R_ne HO_107002.out BK101.out (by decide))); have n4_ := sA (blk_grown (g := gb102) (o := .cells #[.int .i64 0, .slice none 0 0, .slice none 0 0] 31 (0, 0)) (sB BK102.out) hg (Kd.R_ne HO_107002.out BK102.out (by decide))); have n5_ := sA (blk_grown (g := gb106) (o := .cells #[.int .i64 a0_0, .slice Ao11 t103.length co11, u107002] 31 (0, 0)) (sB BK106.out) hg (Kd.R_ne HO_107002.out BK106.out (by decide))); have n6_ := sA (hb); have n7_ := sA (ho); clear HO_9; clear HO_10; clear HO_107001; clear BK101; clear BK102; clear BK106; clear HB; clear HO_107002; have HO_9 := n0_; have HO_10 := n1_; have HO_107001 := n2_; have BK101 := n3_; have BK102 := n4_; have BK106 := n5_; have HB := n6_; have HO117 := n7_; clear n0_ n1_ n2_ n3_ n4_ n5_ n6_ n7_; clear ho hb hg hat; obtain ⟨Ao83, co83, eo83⟩ := Kd.R_slice HO117.out; subst eo83; have hcz84_0 : w82.cell? ⟨gb106, 0, none⟩ = some (.int .i64 a0_0) := sC BK106 0 rfl; have hcz84_1 : w82.cell? ⟨gb106, 1, none⟩ = some (.slice Ao11 t103.length co11) := sC BK106 1 rfl; have hcz84_2 : w82.cell? ⟨gb106, 2, none⟩ = some (u107002) := sC BK106 2 rfl; have hfz84_0 := blk_frozen BK106.out 0; have hfz84_1 := blk_frozen BK106.out 1; have hfz84_2 := blk_frozen BK106.out 2))
               go_roundg kj66
               case measure => have := HK1.out; have := HJ43.out; have := HK3.out; have := HJ66.out; omega
               case rel => exact ⟨(x10_3), (wrap64 (x14_3 + 1)), (y115), (.slice Ao83 y115.length co83), (by first | rfl | (simp; done) | (simp [*]; done)), H', ⟨by have := HK1.out; have := HJ43.out; have := HK3.out; have := HJ66.out; omega⟩, ⟨sR (Kd.R_mono (Kd.R_far (p := ⟨gb106, 2, none⟩) (Kd.R_types HO_9.out BK106.out (by decide)) (fun _ hk => hk.2) (.slice Ao83 y115.length co83)) (fun _ hk => ⟨hk.1.1, hk.1.2⟩))⟩, ⟨sR (Kd.R_mono (Kd.R_far (p := ⟨gb106, 2, none⟩) (Kd.R_types HO_10.out BK106.out (by decide)) (fun _ hk => hk.2) (.slice Ao83 y115.length co83)) (fun _ hk => ⟨hk.1.1, hk.1.2⟩))⟩, ⟨sR (Kd.R_mono (Kd.R_far (p := ⟨gb106, 2, none⟩) (Kd.R_types HO_107001.out BK106.out (by decide)) (fun _ hk => hk.2) (.slice Ao83 y115.length co83)) (fun _ hk => trivial))⟩, ⟨sR (Kd.R_mono (Kd.R_far (p := ⟨gb106, 2, none⟩) (Kd.R_types HO117.out BK106.out (by decide)) (fun _ hk => hk.2) (.slice Ao83 y115.length co83)) (fun _ hk => ⟨hk.1.1, hk.1.2⟩))⟩, ⟨by (with_reducible repeat first | apply blk_drewN | apply blk_drew | apply blk_alloc); refine blk_far ?_ NB101_106.out _; (with_reducible repeat first | apply blk_drewN | apply blk_drew | apply blk_alloc); exact BK101.out⟩, ⟨by (with_reducible repeat first | apply blk_drewN | apply blk_drew | apply blk_alloc); refine blk_far ?_ NB102_106.out _; (with_reducible repeat first | apply blk_drewN | apply blk_drew | apply blk_alloc); exact BK102.out⟩, ⟨by (with_reducible repeat first | apply blk_drewN | apply blk_drew | apply blk_alloc); refine blk_put (cs := #[.int .i64 a0_0, .slice Ao11 t103.length co11, u107002]) ?_ 2 _ rfl; (with_reducible repeat first | apply blk_drewN | apply blk_drew | apply blk_alloc); exact BK106.out⟩, ⟨by repeat (first | (with_reducible first | exact HB.out | apply sLA | apply sLN | apply sLD | refine sLS ?_ GE101.out | refine sLS ?_ GE102.out | refine sLS ?_ GE106.out) | exact HB.out)⟩⟩
              ·replace c78 := Bool.eq_false_iff.mpr c78
               subst c78
               have H1 : (if x12_43 ≥ (wrap64 (x14_3 + 3)) then (if x10_3.length < 17592186044416 then (spec_l11Hear.l1 kj66 x9_1 (x10_3 ++ [x14_3]) x12_43 (wrap64 (x14_3 + 1)) a0_0 l0_1 l0_2 a0_0 t103 y115) else (none)) else (spec_l11Hear.l1 kj66 x9_1 x10_3 x12_43 (wrap64 (x14_3 + 1)) a0_0 l0_1 l0_2 a0_0 t103 y115)) = some (r1, r2, r3, r4, r5, r6) := by rw [if_neg (show ¬ (false = true) by decide)] at H; exact H
               clear H
               have H := H1
               clear H1
               by_cases c85 : x12_43 ≥ (wrap64 (x14_3 + 3))
               ·rw [if_pos c85] at H
                have c85b0 : decide ((wrap64 (x14_3 + 3)) ≤ x12_43) = true := decide_eq_true c85
                clear c85
                by_cases c86 : x10_3.length < 17592186044416
                ·rw [if_pos c86] at H
                 have LMc86 := sA c86
                 clear c86
                 obtain ⟨y118, hy118⟩ : ∃ y_ : List Int, y_ = (x10_3 ++ [x14_3]) := ⟨_, rfl⟩
                 replace H : (spec_l11Hear.l1 kj66 x9_1 y118 x12_43 (wrap64 (x14_3 + 1)) a0_0 l0_1 l0_2 a0_0 t103 y115) = some (r1, r2, r3, r4, r5, r6) := by first | (rw [hy118]; with_reducible exact H) | (have H2_ := (Option.bind_some _ _).symm.trans H; rw [hy118]; with_reducible exact H2_) | (have H2_ := (Option.bind_some _ _).symm.trans H; with_reducible exact H2_) | with_reducible exact H | (rw [hy118]; exact H) | exact H
                 have Ny118 := sA hy118
                 clear hy118
                 have H' := sA H
                 clear H
                 have hnb87 := NB106_101.out
                 have hnc87 := NB101_106.out
                 have hnb88 := NB106_102.out
                 have hnc88 := NB102_106.out
                 have hcz89_0 : wc.cell? ⟨gb106, 0, none⟩ = some (.int .i64 a0_0) := sC BK106 0 rfl
                 have hcz89_1 : wc.cell? ⟨gb106, 1, none⟩ = some (.slice Ao11 t103.length co11) := sC BK106 1 rfl
                 have hcz89_2 : wc.cell? ⟨gb106, 2, none⟩ = some (u107002) := sC BK106 2 rfl
                 have hfz89_0 := blk_frozen BK106.out 0
                 have hfz89_1 := blk_frozen BK106.out 1
                 have hfz89_2 := blk_frozen BK106.out 2
                 go_wp2_with (first | ((with_reducible refine gate_builtin (b := .append) (xs := #[.tmp 79, .tmp 81]) rfl ?_); at_builtin; refine Kd.R_append (Kd.int .i64) (w0 := w) w.heap.size rfl (.tmp 79) (.tmp 81) 23 3 (.int .i64 0) 8 rfl Try.underlying23 info3 rfl (by decide) (by omega) u107002 x107002_3 x14_3 [.int .i64 x14_3] (fun k_ => some k_ ≠ (u9 : Value).ownBlock ∧ some k_ ≠ (u10 : Value).ownBlock) (fun _ => False) rfl rfl ?aP (fun _ hk => hk.elim) ?aF ?aO ?aB ?aS ?aL ?_; (case aP => exact rfl); (case aB => exact (by repeat (first | (with_reducible first | exact HB.out | apply sLA | apply sLN | apply sLD | refine sLS ?_ (Aside0.out (by assumption))) | exact HB.out))); (case aF => exact (fun k_ hk => ⟨Kd.fresh' (Kd.R_lt (sR HO_9.out)) k_ hk, Kd.fresh' (Kd.R_lt (sR HO_10.out)) k_ hk⟩)); (case aO => exact (sR HO_107002.out)); (case aS => exact (below_size (by repeat (first | (with_reducible first | exact HB.out | apply sLA | apply sLN | apply sLD | refine sLS ?_ (Aside0.out (by assumption))) | exact HB.out)))); (case aL => have := LMc77.out; omega); intro v116 w90 ho hb hg hat; rw [← Ny115.out] at ho; have n0_ := sA (Kd.R_after (ok := (fun k_ => some k_ ≠ (u10 : Value).ownBlock)) (sR HO_9.out) hg hat); have n1_ := sA (Kd.R_after (ok := (fun k_ => some k_ ≠ (u9 : Value).ownBlock)) (sR HO_10.out) hg hat); have n2_ := sA (Kd.R_over' (sR HO_107001.out) (Kd.R_typed (sR HO_107002.out)) (by decide) hg); have n3_ := sA (blk_grown (g := gb101) (o := .cells #[.int .i64 a0_0, .slice A0_1 l0_1.length c0_1, .slice A0_2 l0_2.length c0_2] 31 (0, 0)) (sB BK101.out) hg (Kd.R_ne HO_107002.out BK101.out (by decide))); have n4_ := sA (blk_grown (g := gb102) (o := .cells #[.int .i64 0, .slice none 0 0, .slice none 0 0] 31 (0, 0)) (sB BK102.out) hg (Kd.R_ne HO_107002.out BK102.out (by decide))); have n5_ := sA (blk_grown (g := gb106) (o := .cells #[.int .i64 a0_0, .slice Ao11 t103.length co11, u107002] 31 (0, 0)) (sB BK106.out) hg (Kd.R_ne HO_107002.out BK106.out (by decide))); have n6_ := sA (hb); have n7_ := sA (ho); clear HO_9; clear HO_10; clear HO_107001; clear BK101; clear BK102; clear BK106; clear HB; clear HO_107002; have HO_9 := n0_; have HO_10 := n1_; have HO_107001 := n2_; have BK101 := n3_; have BK102 := n4_; have BK106 := n5_; have HB := n6_; have HO117 := n7_; clear n0_ n1_ n2_ n3_ n4_ n5_ n6_ n7_; clear ho hb hg hat; obtain ⟨Ao91, co91, eo91⟩ := Kd.R_slice HO117.out; subst eo91; have hcz92_0 : w90.cell? ⟨gb106, 0, none⟩ = some (.int .i64 a0_0) := sC BK106 0 rfl; have hcz92_1 : w90.cell? ⟨gb106, 1, none⟩ = some (.slice Ao11 t103.length co11) := sC BK106 1 rfl; have hcz92_2 : w90.cell? ⟨gb106, 2, none⟩ = some (u107002) := sC BK106 2 rfl; have hfz92_0 := blk_frozen BK106.out 0; have hfz92_1 := blk_frozen BK106.out 1; have hfz92_2 := blk_frozen BK106.out 2) | ((with_reducible refine gate_builtin (b := .append) (xs := #[.tmp 92, .tmp 94]) rfl ?_); at_builtin; refine Kd.R_append (Kd.int .i64) (w0 := w) w.heap.size rfl (.tmp 92) (.tmp 94) 23 3 (.int .i64 0) 8 rfl Try.underlying23 info3 rfl (by decide) (by omega) u10 x10_3 x14_3 [.int .i64 x14_3] (fun k_ => some k_ ≠ (u9 : Value).ownBlock ∧ some k_ ≠ (.slice Ao91 y115.length co91 : Value).ownBlock) (fun _ => False) rfl (by first | (go_simp; done) | (go_simp; rfl)) ?aP (fun _ hk => hk.elim) ?aF ?aO ?aB ?aS ?aL ?_; (case aP => exact rfl); (case aB => exact (by repeat (first | (with_reducible first | exact HB.out | apply sLA | apply sLN | apply sLD | refine sLS ?_ (Aside0.out (by assumption))) | exact HB.out))); (case aF => exact (fun k_ hk => ⟨Kd.fresh' (Kd.R_lt (sR (Kd.R_mono (Kd.R_far (p := ⟨gb106, 2, none⟩) (Kd.R_types HO_9.out BK106.out (by decide)) (fun _ hk => hk.2) (.slice Ao91 y115.length co91)) (fun _ h_ => h_.1)))) k_ hk, Kd.fresh' (Kd.R_lt (sR (Kd.R_mono (Kd.R_far (p := ⟨gb106, 2, none⟩) (Kd.R_types HO117.out BK106.out (by decide)) (fun _ hk => hk.2) (.slice Ao91 y115.length co91)) (fun _ h_ => h_.1)))) k_ hk⟩)); (case aO => exact (sR (Kd.R_mono (Kd.R_far (p := ⟨gb106, 2, none⟩) (Kd.R_types HO_10.out BK106.out (by decide)) (fun _ hk => hk.2) (.slice Ao91 y115.length co91)) (fun _ hk => ⟨hk.1.1, hk.1.2⟩)))); (case aS => exact (below_size (by repeat (first | (with_reducible first | exact HB.out | apply sLA | apply sLN | apply sLD | refine sLS ?_ (Aside0.out (by assumption))) | exact HB.out)))); (case aL => have := LMc86.out; omega); intro v119 w93 ho hb hg hat; rw [← Ny118.out] at ho; have n0_ := sA (Kd.R_after (ok := (fun k_ => some k_ ≠ (.slice Ao91 y115.length co91 : Value).ownBlock)) (sR (Kd.R_mono (Kd.R_far (p := ⟨gb106, 2, none⟩) (Kd.R_types HO_9.out BK106.out (by decide)) (fun _ hk => hk.2) (.slice Ao91 y115.length co91)) (fun _ hk => ⟨hk.1.2, hk.1.1⟩))) hg hat); have n1_ := sA (Kd.R_over' (sR (Kd.R_mono (Kd.R_far (p := ⟨gb106, 2, none⟩) (Kd.R_types HO_107001.out BK106.out (by decide)) (fun _ hk => hk.2) (.slice Ao91 y115.length co91)) (fun _ h_ => h_.1))) (Kd.R_typed (sR (Kd.R_mono (Kd.R_far (p := ⟨gb106, 2, none⟩) (Kd.R_types HO_10.out BK106.out (by decide)) (fun _ hk => hk.2) (.slice Ao91 y115.length co91)) (fun _ h_ => h_.1)))) (by decide) hg); have n2_ := sA (blk_grown (g := gb101) (o := .cells #[.int .i64 a0_0, .slice A0_1 l0_1.length c0_1, .slice A0_2 l0_2.length c0_2] 31 (0, 0)) (by (with_reducible repeat first | apply blk_drewN | apply blk_drew | apply blk_alloc); refine blk_far ?_ NB101_106.out _; (with_reducible repeat first | apply blk_drewN | apply blk_drew | apply blk_alloc); exact BK101.out) hg (Kd.R_ne HO_10.out BK101.out (by decide))); have n3_ := sA (blk_grown (g := gb102) (o := .cells #[.int .i64 0, .slice none 0 0, .slice none 0 0] 31 (0, 0)) (by (with_reducible repeat first | apply blk_drewN | apply blk_drew | apply blk_alloc); refine blk_far ?_ NB102_106.out _; (with_reducible repeat first | apply blk_drewN | apply blk_drew | apply blk_alloc); exact BK102.out) hg (Kd.R_ne HO_10.out BK102.out (by decide))); have n4_ := sA (blk_grown (g := gb106) (o := .cells #[.int .i64 a0_0, .slice Ao11 t103.length co11, .slice Ao91 y115.length co91] 31 (0, 0)) (by (with_reducible repeat first | apply blk_drewN | apply blk_drew | apply blk_alloc); refine blk_put (cs := #[.int .i64 a0_0, .slice Ao11 t103.length co11, u107002]) ?_ 2 _ rfl; (with_reducible repeat first | apply blk_drewN | apply blk_drew | apply blk_alloc); exact BK106.out) hg (Kd.R_ne HO_10.out BK106.out (by decide))); have n5_ := sA (Kd.R_after (ok := (fun k_ => some k_ ≠ (u9 : Value).ownBlock)) (sR (Kd.R_mono (Kd.R_far (p := ⟨gb106, 2, none⟩) (Kd.R_types HO117.out BK106.out (by decide)) (fun _ hk => hk.2) (.slice Ao91 y115.length co91)) (fun _ hk => ⟨hk.1.1, hk.1.2⟩))) hg hat); have n6_ := sA (hb); have n7_ := sA (ho); clear HO_9; clear HO_107001; clear BK101; clear BK102; clear BK106; clear HO117; clear HB; clear HO_10; have HO_9 := n0_; have HO_107001 := n1_; have BK101 := n2_; have BK102 := n3_; have BK106 := n4_; have HO117 := n5_; have HB := n6_; have HO120 := n7_; clear n0_ n1_ n2_ n3_ n4_ n5_ n6_ n7_; clear ho hb hg hat))
                 go_roundg kj66
                 case measure => have := HK1.out; have := HJ43.out; have := HK3.out; have := HJ66.out; omega
                 case rel => exact ⟨(y118), (wrap64 (x14_3 + 1)), (y115), (.slice Ao91 y115.length co91), (by first | rfl | (simp; done) | (simp [*]; done)), H', ⟨by have := HK1.out; have := HJ43.out; have := HK3.out; have := HJ66.out; omega⟩, ⟨sR (Kd.R_mono HO_9.out (fun _ hk => ⟨hk.2, hk.1⟩))⟩, ⟨sR HO120.out⟩, ⟨sR HO_107001.out⟩, ⟨sR HO117.out⟩, ⟨sB BK101.out⟩, ⟨sB BK102.out⟩, ⟨sB BK106.out⟩, ⟨by repeat (first | (with_reducible first | exact HB.out | apply sLA | apply sLN | apply sLD | refine sLS ?_ GE101.out | refine sLS ?_ GE102.out | refine sLS ?_ GE106.out) | exact HB.out)⟩⟩
                ·rw [if_neg c86] at H
                 exact absurd H (by simp)
               ·rw [if_neg c85] at H
                have c85b0 : decide ((wrap64 (x14_3 + 3)) ≤ x12_43) = false := decide_eq_false c85
                clear c85
                have H' := sA H
                clear H
                have hnb94 := NB106_101.out
                have hnc94 := NB101_106.out
                have hnb95 := NB106_102.out
                have hnc95 := NB102_106.out
                have hcz96_0 : wc.cell? ⟨gb106, 0, none⟩ = some (.int .i64 a0_0) := sC BK106 0 rfl
                have hcz96_1 : wc.cell? ⟨gb106, 1, none⟩ = some (.slice Ao11 t103.length co11) := sC BK106 1 rfl
                have hcz96_2 : wc.cell? ⟨gb106, 2, none⟩ = some (u107002) := sC BK106 2 rfl
                have hfz96_0 := blk_frozen BK106.out 0
                have hfz96_1 := blk_frozen BK106.out 1
                have hfz96_2 := blk_frozen BK106.out 2
                go_wp2_with (first | ((with_reducible refine gate_builtin (b := .append) (xs := #[.tmp 79, .tmp 81]) rfl ?_); at_builtin; refine Kd.R_append (Kd.int .i64) (w0 := w) w.heap.size rfl (.tmp 79) (.tmp 81) 23 3 (.int .i64 0) 8 rfl Try.underlying23 info3 rfl (by decide) (by omega) u107002 x107002_3 x14_3 [.int .i64 x14_3] (fun k_ => some k_ ≠ (u9 : Value).ownBlock ∧ some k_ ≠ (u10 : Value).ownBlock) (fun _ => False) rfl rfl ?aP (fun _ hk => hk.elim) ?aF ?aO ?aB ?aS ?aL ?_; (case aP => exact rfl); (case aB => exact (by repeat (first | (with_reducible first | exact HB.out | apply sLA | apply sLN | apply sLD | refine sLS ?_ (Aside0.out (by assumption))) | exact HB.out))); (case aF => exact (fun k_ hk => ⟨Kd.fresh' (Kd.R_lt (sR HO_9.out)) k_ hk, Kd.fresh' (Kd.R_lt (sR HO_10.out)) k_ hk⟩)); (case aO => exact (sR HO_107002.out)); (case aS => exact (below_size (by repeat (first | (with_reducible first | exact HB.out | apply sLA | apply sLN | apply sLD | refine sLS ?_ (Aside0.out (by assumption))) | exact HB.out)))); (case aL => have := LMc77.out; omega); intro v116 w97 ho hb hg hat; rw [← Ny115.out] at ho; have n0_ := sA (Kd.R_after (ok := (fun k_ => some k_ ≠ (u10 : Value).ownBlock)) (sR HO_9.out) hg hat); have n1_ := sA (Kd.R_after (ok := (fun k_ => some k_ ≠ (u9 : Value).ownBlock)) (sR HO_10.out) hg hat); have n2_ := sA (Kd.R_over' (sR HO_107001.out) (Kd.R_typed (sR HO_107002.out)) (by decide) hg); have n3_ := sA (blk_grown (g := gb101) (o := .cells #[.int .i64 a0_0, .slice A0_1 l0_1.length c0_1, .slice A0_2 l0_2.length c0_2] 31 (0, 0)) (sB BK101.out) hg (Kd.R_ne HO_107002.out BK101.out (by decide))); have n4_ := sA (blk_grown (g := gb102) (o := .cells #[.int .i64 0, .slice none 0 0, .slice none 0 0] 31 (0, 0)) (sB BK102.out) hg (Kd.R_ne HO_107002.out BK102.out (by decide))); have n5_ := sA (blk_grown (g := gb106) (o := .cells #[.int .i64 a0_0, .slice Ao11 t103.length co11, u107002] 31 (0, 0)) (sB BK106.out) hg (Kd.R_ne HO_107002.out BK106.out (by decide))); have n6_ := sA (hb); have n7_ := sA (ho); clear HO_9; clear HO_10; clear HO_107001; clear BK101; clear BK102; clear BK106; clear HB; clear HO_107002; have HO_9 := n0_; have HO_10 := n1_; have HO_107001 := n2_; have BK101 := n3_; have BK102 := n4_; have BK106 := n5_; have HB := n6_; have HO117 := n7_; clear n0_ n1_ n2_ n3_ n4_ n5_ n6_ n7_; clear ho hb hg hat; obtain ⟨Ao98, co98, eo98⟩ := Kd.R_slice HO117.out; subst eo98; have hcz99_0 : w97.cell? ⟨gb106, 0, none⟩ = some (.int .i64 a0_0) := sC BK106 0 rfl; have hcz99_1 : w97.cell? ⟨gb106, 1, none⟩ = some (.slice Ao11 t103.length co11) := sC BK106 1 rfl; have hcz99_2 : w97.cell? ⟨gb106, 2, none⟩ = some (u107002) := sC BK106 2 rfl; have hfz99_0 := blk_frozen BK106.out 0; have hfz99_1 := blk_frozen BK106.out 1; have hfz99_2 := blk_frozen BK106.out 2))
                go_roundg kj66
                case measure => have := HK1.out; have := HJ43.out; have := HK3.out; have := HJ66.out; omega
                case rel => exact ⟨(x10_3), (wrap64 (x14_3 + 1)), (y115), (.slice Ao98 y115.length co98), (by first | rfl | (simp; done) | (simp [*]; done)), H', ⟨by have := HK1.out; have := HJ43.out; have := HK3.out; have := HJ66.out; omega⟩, ⟨sR (Kd.R_mono (Kd.R_far (p := ⟨gb106, 2, none⟩) (Kd.R_types HO_9.out BK106.out (by decide)) (fun _ hk => hk.2) (.slice Ao98 y115.length co98)) (fun _ hk => ⟨hk.1.1, hk.1.2⟩))⟩, ⟨sR (Kd.R_mono (Kd.R_far (p := ⟨gb106, 2, none⟩) (Kd.R_types HO_10.out BK106.out (by decide)) (fun _ hk => hk.2) (.slice Ao98 y115.length co98)) (fun _ hk => ⟨hk.1.1, hk.1.2⟩))⟩, ⟨sR (Kd.R_mono (Kd.R_far (p := ⟨gb106, 2, none⟩) (Kd.R_types HO_107001.out BK106.out (by decide)) (fun _ hk => hk.2) (.slice Ao98 y115.length co98)) (fun _ hk => trivial))⟩, ⟨sR (Kd.R_mono (Kd.R_far (p := ⟨gb106, 2, none⟩) (Kd.R_types HO117.out BK106.out (by decide)) (fun _ hk => hk.2) (.slice Ao98 y115.length co98)) (fun _ hk => ⟨hk.1.1, hk.1.2⟩))⟩, ⟨by (with_reducible repeat first | apply blk_drewN | apply blk_drew | apply blk_alloc); refine blk_far ?_ NB101_106.out _; (with_reducible repeat first | apply blk_drewN | apply blk_drew | apply blk_alloc); exact BK101.out⟩, ⟨by (with_reducible repeat first | apply blk_drewN | apply blk_drew | apply blk_alloc); refine blk_far ?_ NB102_106.out _; (with_reducible repeat first | apply blk_drewN | apply blk_drew | apply blk_alloc); exact BK102.out⟩, ⟨by (with_reducible repeat first | apply blk_drewN | apply blk_drew | apply blk_alloc); refine blk_put (cs := #[.int .i64 a0_0, .slice Ao11 t103.length co11, u107002]) ?_ 2 _ rfl; (with_reducible repeat first | apply blk_drewN | apply blk_drew | apply blk_alloc); exact BK106.out⟩, ⟨by repeat (first | (with_reducible first | exact HB.out | apply sLA | apply sLN | apply sLD | refine sLS ?_ GE101.out | refine sLS ?_ GE102.out | refine sLS ?_ GE106.out) | exact HB.out)⟩⟩
             ·rw [if_neg c77] at H
              exact absurd H (by simp)
            ·replace c76 := Bool.eq_false_iff.mpr c76
             subst c76
             have H1 : (if t114 = true then (spec_l11Hear.l1 kj66 x9_1 x10_3 x12_43 (wrap64 (x14_3 + 1)) a0_0 l0_1 l0_2 a0_0 t103 x107002_3) else (if x12_43 ≥ (wrap64 (x14_3 + 3)) then (if x10_3.length < 17592186044416 then (spec_l11Hear.l1 kj66 x9_1 (x10_3 ++ [x14_3]) x12_43 (wrap64 (x14_3 + 1)) a0_0 l0_1 l0_2 a0_0 t103 x107002_3) else (none)) else (spec_l11Hear.l1 kj66 x9_1 x10_3 x12_43 (wrap64 (x14_3 + 1)) a0_0 l0_1 l0_2 a0_0 t103 x107002_3))) = some (r1, r2, r3, r4, r5, r6) := by rw [if_neg (show ¬ (false = true) by decide)] at H; exact H
             clear H
             have H := H1
             clear H1
             by_cases c100 : t114 = true
             ·subst c100
              have H1 : (spec_l11Hear.l1 kj66 x9_1 x10_3 x12_43 (wrap64 (x14_3 + 1)) a0_0 l0_1 l0_2 a0_0 t103 x107002_3) = some (r1, r2, r3, r4, r5, r6) := by rw [if_pos rfl] at H; exact H
              clear H
              have H := H1
              clear H1
              have H' := sA H
              clear H
              go_wp2
              go_roundg kj66
              case measure => have := HK1.out; have := HJ43.out; have := HK3.out; have := HJ66.out; omega
              case rel => exact ⟨(x10_3), (wrap64 (x14_3 + 1)), (x107002_3), (u107002), (by first | rfl | (simp; done) | (simp [*]; done)), H', ⟨by have := HK1.out; have := HJ43.out; have := HK3.out; have := HJ66.out; omega⟩, ⟨sR HO_9.out⟩, ⟨sR HO_10.out⟩, ⟨sR HO_107001.out⟩, ⟨sR HO_107002.out⟩, ⟨sB BK101.out⟩, ⟨sB BK102.out⟩, ⟨sB BK106.out⟩, ⟨by repeat (first | (with_reducible first | exact HB.out | apply sLA | apply sLN | apply sLD | refine sLS ?_ GE101.out | refine sLS ?_ GE102.out | refine sLS ?_ GE106.out) | exact HB.out)⟩⟩
             ·replace c100 := Bool.eq_false_iff.mpr c100
              subst c100
              have H1 : (if x12_43 ≥ (wrap64 (x14_3 + 3)) then (if x10_3.length < 17592186044416 then (spec_l11Hear.l1 kj66 x9_1 (x10_3 ++ [x14_3]) x12_43 (wrap64 (x14_3 + 1)) a0_0 l0_1 l0_2 a0_0 t103 x107002_3) else (none)) else (spec_l11Hear.l1 kj66 x9_1 x10_3 x12_43 (wrap64 (x14_3 + 1)) a0_0 l0_1 l0_2 a0_0 t103 x107002_3)) = some (r1, r2, r3, r4, r5, r6) := by rw [if_neg (show ¬ (false = true) by decide)] at H; exact H
              clear H
              have H := H1
              clear H1
              by_cases c101 : x12_43 ≥ (wrap64 (x14_3 + 3))
              ·rw [if_pos c101] at H
               have c101b0 : decide ((wrap64 (x14_3 + 3)) ≤ x12_43) = true := decide_eq_true c101
               clear c101
               by_cases c102 : x10_3.length < 17592186044416
               ·rw [if_pos c102] at H
                have LMc102 := sA c102
                clear c102
                obtain ⟨y121, hy121⟩ : ∃ y_ : List Int, y_ = (x10_3 ++ [x14_3]) := ⟨_, rfl⟩
                replace H : (spec_l11Hear.l1 kj66 x9_1 y121 x12_43 (wrap64 (x14_3 + 1)) a0_0 l0_1 l0_2 a0_0 t103 x107002_3) = some (r1, r2, r3, r4, r5, r6) := by first | (rw [hy121]; with_reducible exact H) | (have H2_ := (Option.bind_some _ _).symm.trans H; rw [hy121]; with_reducible exact H2_) | (have H2_ := (Option.bind_some _ _).symm.trans H; with_reducible exact H2_) | with_reducible exact H | (rw [hy121]; exact H) | exact H
                have Ny121 := sA hy121
                clear hy121
                have H' := sA H
                clear H
                go_wp2_with (first | ((with_reducible refine gate_builtin (b := .append) (xs := #[.tmp 92, .tmp 94]) rfl ?_); at_builtin; refine Kd.R_append (Kd.int .i64) (w0 := w) w.heap.size rfl (.tmp 92) (.tmp 94) 23 3 (.int .i64 0) 8 rfl Try.underlying23 info3 rfl (by decide) (by omega) u10 x10_3 x14_3 [.int .i64 x14_3] (fun k_ => some k_ ≠ (u9 : Value).ownBlock ∧ some k_ ≠ (u107002 : Value).ownBlock) (fun _ => False) rfl rfl ?aP (fun _ hk => hk.elim) ?aF ?aO ?aB ?aS ?aL ?_; (case aP => exact rfl); (case aB => exact (by repeat (first | (with_reducible first | exact HB.out | apply sLA | apply sLN | apply sLD | refine sLS ?_ (Aside0.out (by assumption))) | exact HB.out))); (case aF => exact (fun k_ hk => ⟨Kd.fresh' (Kd.R_lt (sR HO_9.out)) k_ hk, Kd.fresh' (Kd.R_lt (sR HO_107002.out)) k_ hk⟩)); (case aO => exact (sR HO_10.out)); (case aS => exact (below_size (by repeat (first | (with_reducible first | exact HB.out | apply sLA | apply sLN | apply sLD | refine sLS ?_ (Aside0.out (by assumption))) | exact HB.out)))); (case aL => have := LMc102.out; omega); intro v122 w103 ho hb hg hat; rw [← Ny121.out] at ho; have n0_ := sA (Kd.R_after (ok := (fun k_ => some k_ ≠ (u107002 : Value).ownBlock)) (sR (Kd.R_mono HO_9.out (fun _ hk => ⟨hk.2, hk.1⟩))) hg hat); have n1_ := sA (Kd.R_over' (sR HO_107001.out) (Kd.R_typed (sR HO_10.out)) (by decide) hg); have n2_ := sA (Kd.R_after (ok := (fun k_ => some k_ ≠ (u9 : Value).ownBlock)) (sR HO_107002.out) hg hat); have n3_ := sA (blk_grown (g := gb101) (o := .cells #[.int .i64 a0_0, .slice A0_1 l0_1.length c0_1, .slice A0_2 l0_2.length c0_2] 31 (0, 0)) (sB BK101.out) hg (Kd.R_ne HO_10.out BK101.out (by decide))); have n4_ := sA (blk_grown (g := gb102) (o := .cells #[.int .i64 0, .slice none 0 0, .slice none 0 0] 31 (0, 0)) (sB BK102.out) hg (Kd.R_ne HO_10.out BK102.out (by decide))); have n5_ := sA (blk_grown (g := gb106) (o := .cells #[.int .i64 a0_0, .slice Ao11 t103.length co11, u107002] 31 (0, 0)) (sB BK106.out) hg (Kd.R_ne HO_10.out BK106.out (by decide))); have n6_ := sA (hb); have n7_ := sA (ho); clear HO_9; clear HO_107001; clear HO_107002; clear BK101; clear BK102; clear BK106; clear HB; clear HO_10; have HO_9 := n0_; have HO_107001 := n1_; have HO_107002 := n2_; have BK101 := n3_; have BK102 := n4_; have BK106 := n5_; have HB := n6_; have HO123 := n7_; clear n0_ n1_ n2_ n3_ n4_ n5_ n6_ n7_; clear ho hb hg hat))
                go_roundg kj66
                case measure => have := HK1.out; have := HJ43.out; have := HK3.out; have := HJ66.out; omega
                case rel => exact ⟨(y121), (wrap64 (x14_3 + 1)), (x107002_3), (u107002), (by first | rfl | (simp; done) | (simp [*]; done)), H', ⟨by have := HK1.out; have := HJ43.out; have := HK3.out; have := HJ66.out; omega⟩, ⟨sR (Kd.R_mono HO_9.out (fun _ hk => ⟨hk.2, hk.1⟩))⟩, ⟨sR HO123.out⟩, ⟨sR HO_107001.out⟩, ⟨sR HO_107002.out⟩, ⟨sB BK101.out⟩, ⟨sB BK102.out⟩, ⟨sB BK106.out⟩, ⟨by repeat (first | (with_reducible first | exact HB.out | apply sLA | apply sLN | apply sLD | refine sLS ?_ GE101.out | refine sLS ?_ GE102.out | refine sLS ?_ GE106.out) | exact HB.out)⟩⟩
               ·rw [if_neg c102] at H
                exact absurd H (by simp)
              ·rw [if_neg c101] at H
               have c101b0 : decide ((wrap64 (x14_3 + 3)) ≤ x12_43) = false := decide_eq_false c101
               clear c101
               have H' := sA H
               clear H
               go_wp2
               go_roundg kj66
               case measure => have := HK1.out; have := HJ43.out; have := HK3.out; have := HJ66.out; omega
               case rel => exact ⟨(x10_3), (wrap64 (x14_3 + 1)), (x107002_3), (u107002), (by first | rfl | (simp; done) | (simp [*]; done)), H', ⟨by have := HK1.out; have := HJ43.out; have := HK3.out; have := HJ66.out; omega⟩, ⟨sR HO_9.out⟩, ⟨sR HO_10.out⟩, ⟨sR HO_107001.out⟩, ⟨sR HO_107002.out⟩, ⟨sB BK101.out⟩, ⟨sB BK102.out⟩, ⟨sB BK106.out⟩, ⟨by repeat (first | (with_reducible first | exact HB.out | apply sLA | apply sLN | apply sLD | refine sLS ?_ GE101.out | refine sLS ?_ GE102.out | refine sLS ?_ GE106.out) | exact HB.out)⟩⟩
        ·rw [if_neg c57] at H
         have c57b0 : decide (x14_3 < a0_0) = false := decide_eq_false c57
         clear c57
         simp only [Option.some.injEq, Prod.mk.injEq] at H
         obtain ⟨rfl, rfl, rfl, rfl, rfl, rfl⟩ := H
         have hnb104 := NB101_102.out
         have hnc104 := NB102_101.out
         have hnb105 := NB101_106.out
         have hnc105 := NB106_101.out
         have hcz106_0 : wr.cell? ⟨gb101, 0, none⟩ = some (.int .i64 a0_0) := sC BK101 0 rfl
         have hcz106_1 : wr.cell? ⟨gb101, 1, none⟩ = some (.slice A0_1 l0_1.length c0_1) := sC BK101 1 rfl
         have hcz106_2 : wr.cell? ⟨gb101, 2, none⟩ = some (.slice A0_2 l0_2.length c0_2) := sC BK101 2 rfl
         have hfz106_0 := blk_frozen BK101.out 0
         have hfz106_1 := blk_frozen BK101.out 1
         have hfz106_2 := blk_frozen BK101.out 2
         try go_wp2
         have n0_ := sA (Kd.R_drew HO_9.out)
         have n1_ := sA (Kd.R_drew HO_10.out)
         have n2_ := sA (Kd.R_drew HO_107001.out)
         have n3_ := sA (Kd.R_drew HO_107002.out)
         have n4_ := sA (blk_drew BK101.out)
         have n5_ := sA (blk_drew BK102.out)
         have n6_ := sA (blk_drew BK106.out)
         have n7_ := sA (below_drew1 HB.out)
         clear HO_9
         clear HO_10
         clear HO_107001
         clear HO_107002
         clear BK101
         clear BK102
         clear BK106
         clear HB
         have HO_9 := n0_
         have HO_10 := n1_
         have HO_107001 := n2_
         have HO_107002 := n3_
         have BK101 := n4_
         have BK102 := n5_
         have BK106 := n6_
         have HB := n7_
         clear n0_ n1_ n2_ n3_ n4_ n5_ n6_ n7_
         obtain ⟨Ao110, co110, eo110⟩ := Kd.R_slice HO_107002.out
         (first | subst eo110 | (injection eo110 with f1_ f2_ f3_; have f4_ := f1_.symm; have f5_ := f3_.symm; clear f1_ f2_ f3_; subst f4_; subst f5_))
         refine start_ (n := 11) (S := fun w' => w'.cell? ⟨gb106, 0, none⟩ = some (.int .i64 a0_0) ∧ w'.cell? ⟨gb106, 1, none⟩ = some (.slice Ao11 t103.length co11) ∧ w'.cell? ⟨gb106, 2, none⟩ = some (.slice Ao110 x107002_3.length co110)) (ds := []) (sM 11 0) (by kernel_rfl) rfl rfl ⟨sC BK106 0 rfl, sC BK106 1 rfl, sC BK106 2 rfl⟩ (fun hHeld => ?_); refine with_tabW spec_l11Hear.tab21 spec_l11Hear.bits21 (fun HT_ HW_ => ?_)
         generalize wr.drew = w107 at HO_9 HO_10 HO_107001 HO_107002 BK101 BK102 BK106 HB hHeld ⊢
         refine pure_ (i := 1) (N := some 97) (v := ?_) (a' := ?_) (sM 11 2) rfl rfl (any_of HT_.out (by kernel_rfl)) (fun _ _ _ h => h) (Or.inl ⟨by rfl, ?_⟩) ?_ ?_
         rotate_left
         ·intro w'
          go_simp
          with_reducible rfl
         rotate_left
         ·simp only [Act.put, sI, sZ, sV, i64_w, i32_w]
          rfl
         refine pure_ (i := 2) (N := some 98) (v := ?_) (a' := ?_) (sM 11 6) rfl rfl (any_of HT_.out (by kernel_rfl)) (fun _ _ _ h => h) (Or.inl ⟨by rfl, ?_⟩) ?_ ?_
         rotate_left
         ·intro w'
          go_simp
          with_reducible rfl
         rotate_left
         ·simp only [Act.put, sI, sZ, sV, i64_w, i32_w]
          rfl
         refine pure_ (i := 3) (N := some 99) (v := ?_) (a' := ?_) (sM 11 14) rfl rfl (any_of HT_.out (by kernel_rfl)) (fun _ _ _ h => h) (Or.inl ⟨by rfl, ?_⟩) ?_ ?_
         rotate_left
         ·intro w'
          go_simp
          with_reducible rfl
         rotate_left
         ·simp only [Act.put, sI, sZ, sV, i64_w, i32_w]
          rfl
         refine take_ (i := 0) (N := some 96) (v := ?_) (a' := ?_) (sM 11 15) rfl rfl (take_ofW HT_.out HW_.out (by kernel_rfl)) (fun _ _ _ h => h) (Or.inl ⟨by rfl, ?_⟩) hHeld ?_ ?_
         rotate_left
         ·rintro w' ⟨s0, s1, s2⟩
          go_simp
          with_reducible rfl
         rotate_left
         ·simp only [Act.put, sI, sZ, sV, i64_w, i32_w]
          rfl
         refine take_ (i := 4) (N := some 100) (v := ?_) (a' := ?_) (sM 11 31) rfl rfl (take_ofW HT_.out HW_.out (by kernel_rfl)) (fun _ _ _ h => h) (Or.inl ⟨by rfl, ?_⟩) hHeld ?_ ?_
         rotate_left
         ·rintro w' ⟨s0, s1, s2⟩
          go_simp
          with_reducible rfl
         rotate_left
         ·simp only [Act.put, sI, sZ, sV, i64_w, i32_w]
          rfl
         refine pure_ (i := 5) (N := some 101) (v := ?_) (a' := ?_) (sM 11 63) rfl rfl (any_of HT_.out (by kernel_rfl)) (fun _ _ _ h => h) (Or.inl ⟨by rfl, ?_⟩) ?_ ?_
         rotate_left
         ·intro w'
          go_simp
          with_reducible rfl
         rotate_left
         ·simp only [Act.put, sI, sZ, sV, i64_w, i32_w]
          rfl
         refine pure_ (i := 6) (N := some 102) (v := ?_) (a' := ?_) (sM 11 127) rfl rfl (any_of HT_.out (by kernel_rfl)) (fun _ _ _ h => h) (Or.inl ⟨by rfl, ?_⟩) ?_ ?_
         rotate_left
         ·intro w'
          go_simp
          with_reducible rfl
         rotate_left
         ·simp only [Act.put, sI, sZ, sV, i64_w, i32_w]
          rfl
         refine one_ (i := 7) (N := none) (sM 11 255) rfl rfl (one_of HT_.out (by kernel_rfl)) (by decide) (fun K hK => ?_)
         have hs108 : w107.cell? ⟨gb102, 0, none⟩ = some (.int .i64 0) := sC BK102 0 rfl
         have hfs108 := blk_frozen BK102.out 0
         have hns108_0 := NB101_102.out
         have hns108_2 := NB106_102.out
         have hms108_0 := NB102_101.out
         have hms108_2 := NB102_106.out
         have hs109 : w107.cell? ⟨gb102, 1, none⟩ = some (.slice none 0 0) := sC BK102 1 rfl
         have hfs109 := blk_frozen BK102.out 1
         have hns109_0 := NB101_102.out
         have hns109_2 := NB106_102.out
         have hms109_0 := NB102_101.out
         have hms109_2 := NB102_106.out
         have hs111 : w107.cell? ⟨gb102, 2, none⟩ = some (.slice none 0 0) := sC BK102 2 rfl
         have hfs111 := blk_frozen BK102.out 2
         have hns111_0 := NB101_102.out
         have hns111_2 := NB106_102.out
         have hms111_0 := NB102_101.out
         have hms111_2 := NB102_106.out
         refine skip_ (w1 := ?_) (by rfl) rfl ?_ ?_
         rotate_left
         ·go_simp
          rfl
         refine hK.out _ _ ⟨((cell_far (p := ⟨gb102, _, none⟩) NB106_102.out _).trans (((cell_far (p := ⟨gb102, _, none⟩) NB106_102.out _).trans (((cell_far (p := ⟨gb102, _, none⟩) NB106_102.out _).trans (hHeld.1)))))), ((cell_far (p := ⟨gb102, _, none⟩) NB106_102.out _).trans (((cell_far (p := ⟨gb102, _, none⟩) NB106_102.out _).trans (((cell_far (p := ⟨gb102, _, none⟩) NB106_102.out _).trans (hHeld.2.1)))))), ((cell_far (p := ⟨gb102, _, none⟩) NB106_102.out _).trans (((cell_far (p := ⟨gb102, _, none⟩) NB106_102.out _).trans (((cell_far (p := ⟨gb102, _, none⟩) NB106_102.out _).trans (hHeld.2.2))))))⟩ (fun hHeld => ?_)
         clear hK K
         refine pure_ (i := 8) (N := some 5) (v := ?_) (a' := ?_) (sM 11 511) rfl rfl (any_of HT_.out (by kernel_rfl)) (fun _ _ _ h => h) (Or.inl ⟨by rfl, ?_⟩) ?_ ?_
         rotate_left
         ·intro w'
          go_simp
          with_reducible rfl
         rotate_left
         ·simp only [Act.put, sI, sZ, sV, i64_w, i32_w]
          rfl
         refine pure_ (i := 9) (N := some 6) (v := ?_) (a' := ?_) (sM 11 1023) rfl rfl (any_of HT_.out (by kernel_rfl)) (fun _ _ _ h => h) (Or.inl ⟨by rfl, ?_⟩) ?_ ?_
         rotate_left
         ·intro w'
          go_simp
          with_reducible rfl
         rotate_left
         ·simp only [Act.put, sI, sZ, sV, i64_w, i32_w]
          rfl
         refine pure_ (i := 10) (N := some 7) (v := ?_) (a' := ?_) (sM 11 2047) rfl rfl (any_of HT_.out (by kernel_rfl)) (fun _ _ _ h => h) (Or.inl ⟨by rfl, ?_⟩) ?_ ?_
         rotate_left
         ·intro w'
          go_simp
          with_reducible rfl
         rotate_left
         ·simp only [Act.put, sI, sZ, sV, i64_w, i32_w]
          rfl
         refine done_ (done_of HT_.out (by kernel_rfl)) ?_
         try go_wp2
         refine bodyPost_ret (results_list (rs := [.cell 4 31, .tmp 5, .tmp 6, .tmp 7]) rfl (by simp) (.cell gb102 31 #[.int .i64 a0_0, .slice Ao11 t103.length co11, .slice Ao110 x107002_3.length co110] (0, 0) _ rfl (by (with_reducible repeat first | apply blk_drewN | apply blk_drew | apply blk_alloc); refine blk_put (cs := #[.int .i64 a0_0, .slice Ao11 t103.length co11, .slice none 0 0]) ?_ 2 _ rfl; (with_reducible repeat first | apply blk_drewN | apply blk_drew | apply blk_alloc); refine blk_put (cs := #[.int .i64 a0_0, .slice none 0 0, .slice none 0 0]) ?_ 1 _ rfl; (with_reducible repeat first | apply blk_drewN | apply blk_drew | apply blk_alloc); refine blk_put (cs := #[.int .i64 0, .slice none 0 0, .slice none 0 0]) ?_ 0 _ rfl; (with_reducible repeat first | apply blk_drewN | apply blk_drew | apply blk_alloc); exact BK102.out) Try.underlying31 rfl (by kernel_rfl) (.tmp (.tmp (.tmp .nil))))) rfl ?_
         exact ⟨_, _, _, _, by first | rfl | (simp [errW_none, errW_some] <;> rfl) | (simp [*, errW_none, errW_some] <;> rfl), by (with_reducible repeat (first | apply Kd.R_alloc | apply Kd.R_drewN | apply Kd.R_drew)); exact Kd.R_mono (Kd.R_far (p := ⟨gb102, 2, none⟩) (Kd.R_far (p := ⟨gb102, 1, none⟩) (Kd.R_far (p := ⟨gb102, 0, none⟩) (Kd.R_types HO_107001.out BK102.out (by decide)) (fun _ hk => hk.2) (.int .i64 a0_0)) (fun _ hk => hk.2) (.slice Ao11 t103.length co11)) (fun _ hk => hk.2) (.slice Ao110 x107002_3.length co110)) (fun _ hk => trivial), by (with_reducible repeat (first | apply Kd.R_alloc | apply Kd.R_drewN | apply Kd.R_drew)); exact Kd.R_mono (Kd.R_far (p := ⟨gb102, 2, none⟩) (Kd.R_far (p := ⟨gb102, 1, none⟩) (Kd.R_far (p := ⟨gb102, 0, none⟩) (Kd.R_types HO_107002.out BK102.out (by decide)) (fun _ hk => hk.2) (.int .i64 a0_0)) (fun _ hk => hk.2) (.slice Ao11 t103.length co11)) (fun _ hk => hk.2) (.slice Ao110 x107002_3.length co110)) (fun _ hk => ⟨hk.1.1, hk.1.2⟩), by (with_reducible repeat (first | apply Kd.R_alloc | apply Kd.R_drewN | apply Kd.R_drew)); exact Kd.R_mono (Kd.R_far (p := ⟨gb102, 2, none⟩) (Kd.R_far (p := ⟨gb102, 1, none⟩) (Kd.R_far (p := ⟨gb102, 0, none⟩) (Kd.R_types HO_9.out BK102.out (by decide)) (fun _ hk => hk.2) (.int .i64 a0_0)) (fun _ hk => hk.2) (.slice Ao11 t103.length co11)) (fun _ hk => hk.2) (.slice Ao110 x107002_3.length co110)) (fun _ hk => ⟨hk.1.2, hk.1.1⟩), by (with_reducible repeat (first | apply Kd.R_alloc | apply Kd.R_drewN | apply Kd.R_drew)); exact Kd.R_mono (Kd.R_far (p := ⟨gb102, 2, none⟩) (Kd.R_far (p := ⟨gb102, 1, none⟩) (Kd.R_far (p := ⟨gb102, 0, none⟩) (Kd.R_types HO_10.out BK102.out (by decide)) (fun _ hk => hk.2) (.int .i64 a0_0)) (fun _ hk => hk.2) (.slice Ao11 t103.length co11)) (fun _ hk => hk.2) (.slice Ao110 x107002_3.length co110)) (fun _ hk => ⟨hk.1.2, hk.1.1⟩), by repeat (first | (with_reducible first | exact HB.out | apply sLA | apply sLN | apply sLD | refine sLS ?_ GE101.out | refine sLS ?_ GE102.out | refine sLS ?_ GE106.out) | exact HB.out)⟩

end Go.Proofs.Ytligcknlmbgbiaa.P

namespace Go.Proofs.Ytligcknlmbgbiaa.P
open Go.RowKit Go.Proofs.YtligcknlmbgbiaaW.PrintWords Go.Proofs.YtligcknlmbgbiaaW.PrintLast Go.Proofs.YtligcknlmbgbiaaW.PrintMore
attribute [local go_sem] max2_int min2_int max_two min_two max_three min_three max_four min_four
set_option linter.unusedVariables false
set_option linter.unusedSimpArgs false

/-! ### spec_l1In: function 59 -/
def spec_l1In.f (a0 : Int) (a1 : Int) (a2 : Int) : Option (Bool) := if a0 ≥ a1 then (some (decide (a0 ≤ a2))) else (some false)
set_option maxHeartbeats 8000000 in
set_option maxRecDepth 100000 in
theorem spec_l1In.calls (a0 : Int) (a1 : Int) (a2 : Int) (r : Bool) (w : World) (h : spec_l1In.f a0 a1 a2 = some r) :
  Calls Try.prog 59 #[.int .i64 a0, .int .i64 a1, .int .i64 a2] w fun e w' => e = .returned (.bool r) ∧ Drawn0 w w' := by
 have H : (if a0 ≥ a1 then (some (decide (a0 ≤ a2))) else (some false)) = some r := h
 clear h
 by_cases c4 : a0 ≥ a1
 ·rw [if_pos c4] at H
  have c4b0 : decide (a1 ≤ a0) = true := decide_eq_true c4
  clear c4
  obtain rfl := Option.some.inj H
  go_enter Try.func59, Try.ntmps59
  go_wp2
  go_ret
  exact ⟨by first | rfl | (simp; done) | (simp [*]; done), by repeat (first | exact Drawn0.refl _ | apply Drawn0.step)⟩
 ·rw [if_neg c4] at H
  have c4b0 : decide (a1 ≤ a0) = false := decide_eq_false c4
  clear c4
  obtain rfl := Option.some.inj H
  go_enter Try.func59, Try.ntmps59
  go_wp2
  go_ret
  exact ⟨by first | rfl | (simp; done) | (simp [*]; done), by repeat (first | exact Drawn0.refl _ | apply Drawn0.step)⟩

end Go.Proofs.Ytligcknlmbgbiaa.P

namespace Go.Proofs.Ytligcknlmbgbiaa.P
open Go.RowKit Go.Proofs.YtligcknlmbgbiaaW.PrintWords Go.Proofs.YtligcknlmbgbiaaW.PrintLast Go.Proofs.YtligcknlmbgbiaaW.PrintMore
attribute [local go_sem] max2_int min2_int max_two min_two max_three min_three max_four min_four
set_option linter.unusedVariables false
set_option linter.unusedSimpArgs false

/-! ### spec_NewSender: function 50 -/
def spec_NewSender.f (a0 : Int) : Option (Int × (List (S59)) × List Int × Bool) := (spec_l1In.f a0 0 60).bind fun t102 => (if t102 = true then (some (a0, ([] : List (S59)), ([] : List Int), true)) else (some (0, ([] : List (S59)), ([] : List Int), false)))
set_option maxHeartbeats 8000000 in
set_option maxRecDepth 100000 in
theorem spec_NewSender.calls (a0 : Int) (r1 : Int) (r2 : List (S59)) (r3 : List Int) (r4 : Bool) (w : World) (h : spec_NewSender.f a0 = some (r1, r2, r3, r4)) :
  Calls Try.prog 50 #[.int .i64 a0] w fun e w' => ∃ v1_ v2_ : Value, e = .returned (.tuple #[.agg #[.int .i64 r1, v1_, v2_], .bool r4]) ∧ Kd.R k59 59 w' w.heap.size (fun _ => True) v1_ r2 ∧ Kd.R (Kd.int .i64) 3 w' w.heap.size (fun _ => True) v2_ r3 ∧ Below w.heap.size w w' := by
 have hu31 := Try.underlying31
 have HB := sA (Below.refl w.heap.size w)
 have H : ((spec_l1In.f a0 0 60).bind fun t102 => (if t102 = true then (some (a0, ([] : List (S59)), ([] : List Int), true)) else (some (0, ([] : List (S59)), ([] : List Int), false)))) = some (r1, r2, r3, r4) := h
 clear h
 replace H := Option.bind_eq_some_iff.mp H
 obtain ⟨t102, A20, H⟩ := H
 replace H : (if t102 = true then (some (a0, ([] : List (S59)), ([] : List Int), true)) else (some (0, ([] : List (S59)), ([] : List Int), false))) = some (r1, r2, r3, r4) := H
 have A2 := sA A20
 clear A20
 by_cases c3 : t102 = true
 ·subst c3
  have H1 : (some (a0, ([] : List (S59)), ([] : List Int), true)) = some (r1, r2, r3, r4) := by rw [if_pos rfl] at H; exact H
  clear H
  have H := H1
  clear H1
  simp only [Option.some.injEq, Prod.mk.injEq] at H
  obtain ⟨rfl, rfl, rfl, rfl⟩ := H
  go_enter Try.func50, Try.ntmps50
  go_wp2_with (first | ((with_reducible refine gate_dst (N := 2) rfl ?_); refine box_event ?hg (N := 2) ?hd (cs := #[.int .i64 0, .slice none 0 0, .slice none 0 0]) (t := 31) ?hr ?_; (case hd => rfl); (case hg => rfl); (case hr => first | (go_simp; done) | (go_simp; rfl)); intro gb101 hg w4 hbox hb; have n0_ := sA (below_step (by repeat (first | (with_reducible first | exact HB.out | apply sLA | apply sLN | apply sLD) | exact HB.out)) hb); have n1_ := sA (hbox); have n2_ := sA ((by rw [hg]; exact (below_size (by repeat (first | (with_reducible first | exact HB.out | apply sLA | apply sLN | apply sLD) | exact HB.out))) : w.heap.size ≤ gb101)); have n3_ := sA ((by rw [hg]; exact (below_size (by repeat (first | (with_reducible first | exact HB.out | apply sLA | apply sLN | apply sLD) | exact HB.out))) : w.heap.size ≤ gb101)); clear HB; have HB := n0_; have BK101 := n1_; have GW101 := n2_; have GE101 := n3_; clear n0_ n1_ n2_ n3_; clear hb hbox hg) | ((with_reducible refine gate_callee (f := 59) rfl ?_); refine goesL_ (some 5) rfl rfl Try.func59 (by kernel_rfl) rfl #[.int .i64 a0, .int .i64 0, .int .i64 60] rfl (by (try simp only [List.map_toArray, List.map_cons, List.map_nil]); first | done | rfl | (simp only [List.length_drop, List.length_take]; rfl)) ?_; (with_reducible refine (spec_l1In.calls a0 0 60 true _ A2.out).mono ?_); rintro e w' ⟨rfl, ⟨nd, rfl⟩⟩; refine ⟨_, rfl, ?_⟩; (try (rw [drewN_self w4]; generalize hq_ : World.drewN w4 _ = w4; have n0_ : Aside0 (w4.heap[gb101]? = some (.cells #[.int .i64 0, .slice none 0 0, .slice none 0 0] 31 (0, 0))) := ⟨by rw [← hq_]; exact (sB BK101.out)⟩; have n1_ : Aside0 (Below w.heap.size w w4) := ⟨by rw [← hq_]; exact (by repeat (first | (with_reducible first | exact HB.out | apply sLA | apply sLN | apply sLD | refine sLS ?_ GE101.out) | exact HB.out))⟩; clear BK101 HB hq_; have BK101 := n0_; have HB := n1_; clear n0_ n1_)); have hcz5_0 : w4.cell? ⟨gb101, 0, none⟩ = some (.int .i64 0) := sC BK101 0 rfl; have hcz5_1 : w4.cell? ⟨gb101, 1, none⟩ = some (.slice none 0 0) := sC BK101 1 rfl; have hcz5_2 : w4.cell? ⟨gb101, 2, none⟩ = some (.slice none 0 0) := sC BK101 2 rfl; have hfz5_0 := blk_frozen BK101.out 0; have hfz5_1 := blk_frozen BK101.out 1; have hfz5_2 := blk_frozen BK101.out 2))
  refine bodyPost_ret (results_ct rfl _ _ gb101 31 #[.int .i64 a0, .slice none 0 0, .slice none 0 0] (0, 0) _ rfl (by (with_reducible repeat first | apply blk_drewN | apply blk_drew | apply blk_alloc); refine blk_put (cs := #[.int .i64 a0, .slice none 0 0, .slice none 0 0]) ?_ 2 _ rfl; (with_reducible repeat first | apply blk_drewN | apply blk_drew | apply blk_alloc); refine blk_put (cs := #[.int .i64 a0, .slice none 0 0, .slice none 0 0]) ?_ 1 _ rfl; (with_reducible repeat first | apply blk_drewN | apply blk_drew | apply blk_alloc); refine blk_put (cs := #[.int .i64 0, .slice none 0 0, .slice none 0 0]) ?_ 0 _ rfl; (with_reducible repeat first | apply blk_drewN | apply blk_drew | apply blk_alloc); exact BK101.out) Try.underlying31 rfl (by kernel_rfl)) rfl ?_
  exact ⟨_, _, by first | rfl | (simp [errW_none, errW_some] <;> rfl) | (simp [*, errW_none, errW_some] <;> rfl), by first | exact Kd.R_nil _ _ _ _ _ | exact Kd.N_nil _ _ _ _ _ | exact Kd.V_nil _ _ _ _ _ | exact Kd.Q_nil _ _ _ _ _ | exact Kd.S_nil _ _ _ _ _, by first | exact Kd.R_nil _ _ _ _ _ | exact Kd.N_nil _ _ _ _ _ | exact Kd.V_nil _ _ _ _ _ | exact Kd.Q_nil _ _ _ _ _ | exact Kd.S_nil _ _ _ _ _, by repeat (first | (with_reducible first | exact HB.out | apply sLA | apply sLN | apply sLD | refine sLS ?_ GE101.out) | exact HB.out)⟩
 ·replace c3 := Bool.eq_false_iff.mpr c3
  subst c3
  have H1 : (some (0, ([] : List (S59)), ([] : List Int), false)) = some (r1, r2, r3, r4) := by rw [if_neg (show ¬ (false = true) by decide)] at H; exact H
  clear H
  have H := H1
  clear H1
  simp only [Option.some.injEq, Prod.mk.injEq] at H
  obtain ⟨rfl, rfl, rfl, rfl⟩ := H
  go_enter Try.func50, Try.ntmps50
  go_wp2_with (first | ((with_reducible refine gate_dst (N := 2) rfl ?_); refine box_event ?hg (N := 2) ?hd (cs := #[.int .i64 0, .slice none 0 0, .slice none 0 0]) (t := 31) ?hr ?_; (case hd => rfl); (case hg => rfl); (case hr => first | (go_simp; done) | (go_simp; rfl)); intro gb101 hg w6 hbox hb; have n0_ := sA (below_step (by repeat (first | (with_reducible first | exact HB.out | apply sLA | apply sLN | apply sLD) | exact HB.out)) hb); have n1_ := sA (hbox); have n2_ := sA ((by rw [hg]; exact (below_size (by repeat (first | (with_reducible first | exact HB.out | apply sLA | apply sLN | apply sLD) | exact HB.out))) : w.heap.size ≤ gb101)); have n3_ := sA ((by rw [hg]; exact (below_size (by repeat (first | (with_reducible first | exact HB.out | apply sLA | apply sLN | apply sLD) | exact HB.out))) : w.heap.size ≤ gb101)); clear HB; have HB := n0_; have BK101 := n1_; have GW101 := n2_; have GE101 := n3_; clear n0_ n1_ n2_ n3_; clear hb hbox hg) | ((with_reducible refine gate_callee (f := 59) rfl ?_); refine goesL_ (some 5) rfl rfl Try.func59 (by kernel_rfl) rfl #[.int .i64 a0, .int .i64 0, .int .i64 60] rfl (by (try simp only [List.map_toArray, List.map_cons, List.map_nil]); first | done | rfl | (simp only [List.length_drop, List.length_take]; rfl)) ?_; (with_reducible refine (spec_l1In.calls a0 0 60 false _ A2.out).mono ?_); rintro e w' ⟨rfl, ⟨nd, rfl⟩⟩; refine ⟨_, rfl, ?_⟩; (try (rw [drewN_self w6]; generalize hq_ : World.drewN w6 _ = w6; have n0_ : Aside0 (w6.heap[gb101]? = some (.cells #[.int .i64 0, .slice none 0 0, .slice none 0 0] 31 (0, 0))) := ⟨by rw [← hq_]; exact (sB BK101.out)⟩; have n1_ : Aside0 (Below w.heap.size w w6) := ⟨by rw [← hq_]; exact (by repeat (first | (with_reducible first | exact HB.out | apply sLA | apply sLN | apply sLD | refine sLS ?_ GE101.out) | exact HB.out))⟩; clear BK101 HB hq_; have BK101 := n0_; have HB := n1_; clear n0_ n1_)); have hcz7_0 : w6.cell? ⟨gb101, 0, none⟩ = some (.int .i64 0) := sC BK101 0 rfl; have hcz7_1 : w6.cell? ⟨gb101, 1, none⟩ = some (.slice none 0 0) := sC BK101 1 rfl; have hcz7_2 : w6.cell? ⟨gb101, 2, none⟩ = some (.slice none 0 0) := sC BK101 2 rfl; have hfz7_0 := blk_frozen BK101.out 0; have hfz7_1 := blk_frozen BK101.out 1; have hfz7_2 := blk_frozen BK101.out 2))
  refine bodyPost_ret (results_ct rfl _ _ gb101 31 #[.int .i64 0, .slice none 0 0, .slice none 0 0] (0, 0) _ rfl (by (with_reducible repeat first | apply blk_drewN | apply blk_drew | apply blk_alloc); refine blk_put (cs := #[.int .i64 0, .slice none 0 0, .slice none 0 0]) ?_ 2 _ rfl; (with_reducible repeat first | apply blk_drewN | apply blk_drew | apply blk_alloc); refine blk_put (cs := #[.int .i64 0, .slice none 0 0, .slice none 0 0]) ?_ 1 _ rfl; (with_reducible repeat first | apply blk_drewN | apply blk_drew | apply blk_alloc); refine blk_put (cs := #[.int .i64 0, .slice none 0 0, .slice none 0 0]) ?_ 0 _ rfl; (with_reducible repeat first | apply blk_drewN | apply blk_drew | apply blk_alloc); exact BK101.out) Try.underlying31 rfl (by kernel_rfl)) rfl ?_
  exact ⟨_, _, by first | rfl | (simp [errW_none, errW_some] <;> rfl) | (simp [*, errW_none, errW_some] <;> rfl), by first | exact Kd.R_nil _ _ _ _ _ | exact Kd.N_nil _ _ _ _ _ | exact Kd.V_nil _ _ _ _ _ | exact Kd.Q_nil _ _ _ _ _ | exact Kd.S_nil _ _ _ _ _, by first | exact Kd.R_nil _ _ _ _ _ | exact Kd.N_nil _ _ _ _ _ | exact Kd.V_nil _ _ _ _ _ | exact Kd.Q_nil _ _ _ _ _ | exact Kd.S_nil _ _ _ _ _, by repeat (first | (with_reducible first | exact HB.out | apply sLA | apply sLN | apply sLD | refine sLS ?_ GE101.out) | exact HB.out)⟩

end Go.Proofs.Ytligcknlmbgbiaa.P

namespace Go.Proofs.Ytligcknlmbgbiaa.P
open Go.RowKit Go.Proofs.YtligcknlmbgbiaaW.PrintWords Go.Proofs.YtligcknlmbgbiaaW.PrintLast Go.Proofs.YtligcknlmbgbiaaW.PrintMore
attribute [local go_sem] max2_int min2_int max_two min_two max_three min_three max_four min_four
set_option linter.unusedVariables false
set_option linter.unusedSimpArgs false

/-! ### spec_l11Order: function 51 -/
def spec_l11Order.l0 : Nat → List Int → Int → List Int → Int → Int → Option (Bool)
  | 0, _, _, _, _, _ => none
  | k + 1, x0, x1, x7, x8, x9 => if x9 < x8 then (if 0 ≤ x9 then (if x9 < (x7.length : Int) then ((spec_l1In.f (rd x7 x9) 0 (wrap64 (x1 - 1))).bind fun t102 => (if t102 = true then (if x9 ≤ (x0.length : Int) then ((spec_l1Has.f k (x0.take (x9 : Int).toNat) (rd x7 x9)).bind fun t104 => (if t104 = true then (some false) else (spec_l11Order.l0 k x0 x1 x7 x8 (wrap64 (x9 + 1))))) else (none)) else (some false))) else (none)) else (none)) else (some true)
def spec_l11Order.f (k : Nat) (l0 : List Int) (a1 : Int) : Option (Bool) := spec_l11Order.l0 k l0 a1 l0 (l0.length : Int) 0
theorem spec_l11Order.mono_l : ∀ k, (∀ y0 y1 y2 y3 y4, LeO (spec_l11Order.l0 k y0 y1 y2 y3 y4) (spec_l11Order.l0 (k + 1) y0 y1 y2 y3 y4))
  | 0 => fun _ _ _ _ _ r h => by simp [spec_l11Order.l0] at h
  | k + 1 => by
    have ih0 := spec_l11Order.mono_l k
    · intro y0 y1 y2 y3 y4
      unfold spec_l11Order.l0
      repeat' first
      | (with_reducible exact ih0 _ _ _ _ _)
      | (with_reducible exact spec_l1Has.mono _ _ _)
      | (with_reducible exact LeO.refl _)
      | (with_reducible exact LeO.none _)
      | (with_reducible refine LeO.ite ?_ ?_)
      | (with_reducible refine LeO.bind ?_ (fun _ => ?_))
      | exact ih0 _ _ _ _ _
      | exact spec_l1Has.mono _ _ _
      | exact LeO.none _
      | refine LeO.ite ?_ ?_
      | refine LeO.bind ?_ (fun _ => ?_)
set_option maxHeartbeats 8000000 in
set_option maxRecDepth 100000 in
theorem spec_l11Order.calls (k : Nat) (A0 : Option Addr) (c0 : Nat) (l0 : List Int) (a1 : Int) (r : Bool) (w : World) (hr0 : Kd.C (Kd.int .i64) w A0 l0.length l0) (hc0 : l0.length ≤ c0) (h : spec_l11Order.f k l0 a1 = some r) :
  Calls Try.prog 51 #[.slice A0 l0.length c0, .int .i64 a1] w fun e w' => e = .returned (.bool r) ∧ Drawn0 w w' := by
 have HR0 := sA hr0
 have HC0 := sA hc0
 clear hr0 hc0
 have H : (spec_l11Order.l0 k l0 a1 l0 (l0.length : Int) 0) = some r := h
 clear h
 have H' := sA H
 clear H
 go_enter Try.func51, Try.ntmps51
 go_wp2
 go_loopg [9] k (fun kq v9 w' => ∃ (x9_1 : Int), v9 = .int .i64 x9_1 ∧ Aside0 (spec_l11Order.l0 kq l0 a1 l0 (l0.length : Int) x9_1 = some r) ∧ Aside0 (kq ≤ k) ∧ Drawn0 w w')
 case atStart => exact ⟨(0), (by first | rfl | (simp; done) | (simp [*]; done)), H', ⟨Nat.le_refl _⟩, by repeat (first | exact Drawn0.refl _ | apply Drawn0.step)⟩
 case round =>
  clear H'
  try clear p2
  obtain ⟨x9_1, rfl, HA, HK1, ⟨m1, rfl⟩⟩ := hrel
  cases gk with
  | zero => exact absurd HA.out (by simp [spec_l11Order.l0])
  | succ k1 =>
   have H := HA.out
   clear HA
   simp only [spec_l11Order.l0] at H
   by_cases c3 : x9_1 < (l0.length : Int)
   ·rw [if_pos c3] at H
    have c3b0 : decide (x9_1 < (l0.length : Int)) = true := decide_eq_true c3
    clear c3
    by_cases c4 : 0 ≤ x9_1
    ·rw [if_pos c4] at H
     have c4b0 : decide (0 ≤ x9_1) = true := decide_eq_true c4
     clear c4
     by_cases c5 : x9_1 < (l0.length : Int)
     ·rw [if_pos c5] at H
      have c5b0 : decide (x9_1 < (l0.length : Int)) = true := decide_eq_true c5
      clear c5
      replace H := Option.bind_eq_some_iff.mp H
      obtain ⟨t102, A60, H⟩ := H
      replace H : (if t102 = true then (if x9_1 ≤ (l0.length : Int) then ((spec_l1Has.f k1 (l0.take (x9_1 : Int).toNat) (rd l0 x9_1)).bind fun t104 => (if t104 = true then (some false) else (spec_l11Order.l0 k1 l0 a1 l0 (l0.length : Int) (wrap64 (x9_1 + 1))))) else (none)) else (some false)) = some r := H
      have A6 := sA A60
      clear A60
      by_cases c7 : t102 = true
      ·subst c7
       have H1 : (if x9_1 ≤ (l0.length : Int) then ((spec_l1Has.f k1 (l0.take (x9_1 : Int).toNat) (rd l0 x9_1)).bind fun t104 => (if t104 = true then (some false) else (spec_l11Order.l0 k1 l0 a1 l0 (l0.length : Int) (wrap64 (x9_1 + 1))))) else (none)) = some r := by rw [if_pos rfl] at H; exact H
       clear H
       have H := H1
       clear H1
       have c8b0 := eq_true (of_decide_eq_true (by first | (with_reducible assumption) | assumption) : 0 ≤ x9_1)
       by_cases c9 : x9_1 ≤ (l0.length : Int)
       ·rw [if_pos c9] at H
        have c9b0 := eq_true c9
        have c9b1 : decide (x9_1 ≤ (l0.length : Int)) = true := decide_eq_true c9
        clear c9
        replace H := Option.bind_eq_some_iff.mp H
        obtain ⟨t104, A100, H⟩ := H
        replace H : (if t104 = true then (some false) else (spec_l11Order.l0 k1 l0 a1 l0 (l0.length : Int) (wrap64 (x9_1 + 1)))) = some r := H
        have A10 := sA A100
        clear A100
        by_cases c11 : t104 = true
        ·subst c11
         have H1 : (some false) = some r := by rw [if_pos rfl] at H; exact H
         clear H
         have H := H1
         clear H1
         obtain rfl := Option.some.inj H
         have p101 : 0 ≤ (x9_1 : Int) := of_decide_eq_true (by first | (with_reducible assumption) | assumption)
         have q101 : x9_1 < (l0.length : Int) := of_decide_eq_true (by first | (with_reducible assumption) | assumption)
         obtain ⟨ad101, e101, hx101_0⟩ := Kd.at_int HR0.out x9_1 p101 q101
         cases e101
         replace p101 := eq_true p101
         replace q101 := eq_true q101
         go_wp2_with (first | ((with_reducible refine gate_callee (f := 59) rfl ?_); refine goesL_ (some 17) rfl rfl Try.func59 (by kernel_rfl) rfl #[.int .i64 (rd l0 x9_1), .int .i64 0, .int .i64 (wrap64 (a1 - 1))] rfl (by (try simp only [List.map_toArray, List.map_cons, List.map_nil]); first | done | rfl | (simp only [List.length_drop, List.length_take]; rfl)) ?_; (with_reducible refine (spec_l1In.calls (rd l0 x9_1) 0 (wrap64 (a1 - 1)) true _ A6.out).mono ?_); rintro e w' ⟨rfl, ⟨nd, rfl⟩⟩; refine ⟨_, rfl, ?_⟩; obtain ⟨i012, hi012, _, hsz12, _⟩ := info_parts info3; obtain ⟨hcut12, hA12, hC12⟩ := print_take_of (P := Try.prog) (Value.int .i64) 0 23 3 .i64 Try.underlying23 hi012 hsz12 (some ad101) c0 l0 x9_1 (of_decide_eq_true (by first | (with_reducible assumption) | assumption)) (of_decide_eq_true (by first | (with_reducible assumption) | assumption)) HC0.out; have HR103 := sA (Kd.C_of_reads (h1 := fun _ => rfl) (hA12 _ (Kd.reads_of_C HR0.out))); have HC103 := sA hC12; clear hA12 hC12 hi012 hsz12) | (go_at_call 62; refine calls_of_args (args' := #[.slice (some ad101) (l0.take (x9_1 : Int).toNat).length c0, .int .i64 (rd l0 x9_1)]) (by rw [List.length_take, Nat.min_eq_left (by have h1_ := of_eq_true p101; have h2_ := of_eq_true q101; omega)]) ?_; (with_reducible refine (spec_l1Has.calls k1 _ _ (l0.take (x9_1 : Int).toNat) (rd l0 x9_1) true _ ?side1 ?side2 A10.out).mono ?_); (case side1 => repeat (first | exact HR103.out | (with_reducible refine Kd.C_alloc ?_ _) | (with_reducible refine Kd.C_drewN ?_ _) | (with_reducible refine Kd.C_drew ?_))); (case side2 => exact HC103.out); rintro e w' ⟨rfl, ⟨nd, rfl⟩⟩))
         go_ret
         exact ⟨by first | rfl | (simp; done) | (simp [*]; done), by repeat (first | exact Drawn0.refl _ | apply Drawn0.step)⟩
        ·replace c11 := Bool.eq_false_iff.mpr c11
         subst c11
         have H1 : (spec_l11Order.l0 k1 l0 a1 l0 (l0.length : Int) (wrap64 (x9_1 + 1))) = some r := by rw [if_neg (show ¬ (false = true) by decide)] at H; exact H
         clear H
         have H := H1
         clear H1
         have H' := sA H
         clear H
         have p101 : 0 ≤ (x9_1 : Int) := of_decide_eq_true (by first | (with_reducible assumption) | assumption)
         have q101 : x9_1 < (l0.length : Int) := of_decide_eq_true (by first | (with_reducible assumption) | assumption)
         obtain ⟨ad101, e101, hx101_0⟩ := Kd.at_int HR0.out x9_1 p101 q101
         cases e101
         replace p101 := eq_true p101
         replace q101 := eq_true q101
         go_wp2_with (first | ((with_reducible refine gate_callee (f := 59) rfl ?_); refine goesL_ (some 17) rfl rfl Try.func59 (by kernel_rfl) rfl #[.int .i64 (rd l0 x9_1), .int .i64 0, .int .i64 (wrap64 (a1 - 1))] rfl (by (try simp only [List.map_toArray, List.map_cons, List.map_nil]); first | done | rfl | (simp only [List.length_drop, List.length_take]; rfl)) ?_; (with_reducible refine (spec_l1In.calls (rd l0 x9_1) 0 (wrap64 (a1 - 1)) true _ A6.out).mono ?_); rintro e w' ⟨rfl, ⟨nd, rfl⟩⟩; refine ⟨_, rfl, ?_⟩; obtain ⟨i013, hi013, _, hsz13, _⟩ := info_parts info3; obtain ⟨hcut13, hA13, hC13⟩ := print_take_of (P := Try.prog) (Value.int .i64) 0 23 3 .i64 Try.underlying23 hi013 hsz13 (some ad101) c0 l0 x9_1 (of_decide_eq_true (by first | (with_reducible assumption) | assumption)) (of_decide_eq_true (by first | (with_reducible assumption) | assumption)) HC0.out; have HR103 := sA (Kd.C_of_reads (h1 := fun _ => rfl) (hA13 _ (Kd.reads_of_C HR0.out))); have HC103 := sA hC13; clear hA13 hC13 hi013 hsz13) | (go_at_call 62; refine calls_of_args (args' := #[.slice (some ad101) (l0.take (x9_1 : Int).toNat).length c0, .int .i64 (rd l0 x9_1)]) (by rw [List.length_take, Nat.min_eq_left (by have h1_ := of_eq_true p101; have h2_ := of_eq_true q101; omega)]) ?_; (with_reducible refine (spec_l1Has.calls k1 _ _ (l0.take (x9_1 : Int).toNat) (rd l0 x9_1) false _ ?side1 ?side2 A10.out).mono ?_); (case side1 => repeat (first | exact HR103.out | (with_reducible refine Kd.C_alloc ?_ _) | (with_reducible refine Kd.C_drewN ?_ _) | (with_reducible refine Kd.C_drew ?_))); (case side2 => exact HC103.out); rintro e w' ⟨rfl, ⟨nd, rfl⟩⟩))
         go_roundg k1
         case measure => have := HK1.out; omega
         case rel => exact ⟨(wrap64 (x9_1 + 1)), (by first | rfl | (simp; done) | (simp [*]; done)), H', ⟨by have := HK1.out; omega⟩, by repeat (first | exact Drawn0.refl _ | apply Drawn0.step)⟩
       ·rw [if_neg c9] at H
        exact absurd H (by simp)
      ·replace c7 := Bool.eq_false_iff.mpr c7
       subst c7
       have H1 : (some false) = some r := by rw [if_neg (show ¬ (false = true) by decide)] at H; exact H
       clear H
       have H := H1
       clear H1
       obtain rfl := Option.some.inj H
       have p101 : 0 ≤ (x9_1 : Int) := of_decide_eq_true (by first | (with_reducible assumption) | assumption)
       have q101 : x9_1 < (l0.length : Int) := of_decide_eq_true (by first | (with_reducible assumption) | assumption)
       obtain ⟨ad101, e101, hx101_0⟩ := Kd.at_int HR0.out x9_1 p101 q101
       cases e101
       replace p101 := eq_true p101
       replace q101 := eq_true q101
       go_wp2_with (first | ((with_reducible refine gate_callee (f := 59) rfl ?_); refine goesL_ (some 17) rfl rfl Try.func59 (by kernel_rfl) rfl #[.int .i64 (rd l0 x9_1), .int .i64 0, .int .i64 (wrap64 (a1 - 1))] rfl (by (try simp only [List.map_toArray, List.map_cons, List.map_nil]); first | done | rfl | (simp only [List.length_drop, List.length_take]; rfl)) ?_; (with_reducible refine (spec_l1In.calls (rd l0 x9_1) 0 (wrap64 (a1 - 1)) false _ A6.out).mono ?_); rintro e w' ⟨rfl, ⟨nd, rfl⟩⟩; refine ⟨_, rfl, ?_⟩))
       go_ret
       exact ⟨by first | rfl | (simp; done) | (simp [*]; done), by repeat (first | exact Drawn0.refl _ | apply Drawn0.step)⟩
     ·rw [if_neg c5] at H
      exact absurd H (by simp)
    ·rw [if_neg c4] at H
     exact absurd H (by simp)
   ·rw [if_neg c3] at H
    have c3b0 : decide (x9_1 < (l0.length : Int)) = false := decide_eq_false c3
    clear c3
    obtain rfl := Option.some.inj H
    go_wp2
    go_ret
    exact ⟨by first | rfl | (simp; done) | (simp [*]; done), by repeat (first | exact Drawn0.refl _ | apply Drawn0.step)⟩

end Go.Proofs.Ytligcknlmbgbiaa.P

namespace Go.Proofs.Ytligcknlmbgbiaa.P
open Go.RowKit Go.Proofs.YtligcknlmbgbiaaW.PrintWords Go.Proofs.YtligcknlmbgbiaaW.PrintLast Go.Proofs.YtligcknlmbgbiaaW.PrintMore
attribute [local go_sem] max2_int min2_int max_two min_two max_three min_three max_four min_four
set_option linter.unusedVariables false
set_option linter.unusedSimpArgs false

/-! ### spec_PlayHeard: function 26 -/
mutual
def spec_PlayHeard.j0 : Nat → Int → List Int → Bool → Int → List (S59) → List Int → Option (List Int × Bool)
  | 0, _, _, _, _, _, _ => none
  | k + 1, x0, x1, x32, x110000, x110001, x110002 => if x32 = true then (some (([] : List Int), false)) else (if 0 ≤ x0 then (if (x0 : Int).toNat ≤ 281474976710656 then (spec_PlayHeard.l0 k (List.replicate (x0 : Int).toNat false) x1 (x1.length : Int) 0 x110000 x110001 x110002) else (none)) else (none))
def spec_PlayHeard.l0 : Nat → List Bool → List Int → Int → Int → Int → List (S59) → List Int → Option (List Int × Bool)
  | 0, _, _, _, _, _, _, _ => none
  | k + 1, x8, x35, x36, x37, x110000, x110001, x110002 => if x37 < x36 then (if 0 ≤ x37 then (if x37 < (x35.length : Int) then ((spec_l11Hear.f k x110000 x110001 x110002 (([(⟨rd x35 x37, wrap64 ((rd x35 x37) + 1)⟩ : S59)] : List (S59)))).bind fun bt118 => (if bt118.2.2.2.2.2 = true then (spec_PlayHeard.l1 k x8 x35 x36 x37 bt118.2.2.2.2.1 (bt118.2.2.2.2.1.length : Int) 0 bt118.1 bt118.2.1 bt118.2.2.1) else (some (([] : List Int), false)))) else (none)) else (none)) else (spec_PlayHeard.l2 k ([] : List Int) x8 (x8.length : Int) 0)
def spec_PlayHeard.l1 : Nat → List Bool → List Int → Int → Int → List Int → Int → Int → Int → List (S59) → List Int → Option (List Int × Bool)
  | 0, _, _, _, _, _, _, _, _, _, _ => none
  | k + 1, x8, x35, x36, x37, x56, x57, x58, x110000, x110001, x110002 => if x58 < x57 then (if 0 ≤ x58 then (if x58 < (x56.length : Int) then (if 0 ≤ (rd x56 x58) then (if (rd x56 x58) < (x8.length : Int) then (spec_PlayHeard.l1 k (x8.set ((rd x56 x58) : Int).toNat true) x35 x36 x37 x56 x57 (wrap64 (x58 + 1)) x110000 x110001 x110002) else (none)) else (none)) else (none)) else (none)) else (spec_PlayHeard.l0 k x8 x35 x36 (wrap64 (x37 + 1)) x110000 x110001 x110002)
def spec_PlayHeard.l2 : Nat → List Int → List Bool → Int → Int → Option (List Int × Bool)
  | 0, _, _, _, _ => none
  | k + 1, x17, x67, x68, x69 => if x69 < x68 then (if 0 ≤ x69 then (if x69 < (x67.length : Int) then (if rdOf false x67 x69 = true then (if x17.length < 17592186044416 then (spec_PlayHeard.l2 k (x17 ++ [x69]) x67 x68 (wrap64 (x69 + 1))) else (none)) else (spec_PlayHeard.l2 k x17 x67 x68 (wrap64 (x69 + 1)))) else (none)) else (none)) else (some (x17, true))
end
def spec_PlayHeard.f (k : Nat) (a0 : Int) (l1 : List Int) : Option (List Int × Bool) := (spec_NewSender.f a0).bind fun bt101 => (if bt101.2.2.2 = true then ((spec_l11Order.f k l1 a0).bind fun t110 => (spec_PlayHeard.j0 k a0 l1 (!t110) bt101.1 bt101.2.1 bt101.2.2.1)) else (spec_PlayHeard.j0 k a0 l1 true bt101.1 bt101.2.1 bt101.2.2.1))
set_option maxHeartbeats 8000000 in
set_option maxRecDepth 100000 in
theorem spec_PlayHeard.calls (k : Nat) (a0 : Int) (A1 : Option Addr) (c1 : Nat) (l1 : List Int) (r1 : List Int) (r2 : Bool) (w : World) (hr1 : Kd.C (Kd.int .i64) w A1 l1.length l1) (hc1 : l1.length ≤ c1) (h : spec_PlayHeard.f k a0 l1 = some (r1, r2)) :
  Calls Try.prog 26 #[.int .i64 a0, .slice A1 l1.length c1] w fun e w' => ∃ v0_ : Value, e = .returned (.tuple #[v0_, .bool r2]) ∧ Kd.R (Kd.int .i64) 3 w' w.heap.size (fun _ => True) v0_ r1 ∧ Below w.heap.size w w' := by
 have hu31 := Try.underlying31
 have hu59 := Try.underlying59
 have HR1 := sA hr1
 have HC1 := sA hc1
 clear hr1 hc1
 have HB := sA (Below.refl w.heap.size w)
 have H : ((spec_NewSender.f a0).bind fun bt101 => (if bt101.2.2.2 = true then ((spec_l11Order.f k l1 a0).bind fun t110 => (spec_PlayHeard.j0 k a0 l1 (!t110) bt101.1 bt101.2.1 bt101.2.2.1)) else (spec_PlayHeard.j0 k a0 l1 true bt101.1 bt101.2.1 bt101.2.2.1))) = some (r1, r2) := h
 clear h
 replace H := Option.bind_eq_some_iff.mp H
 obtain ⟨⟨t101, t102, t105, t108⟩, A30, H⟩ := H
 replace H : (if t108 = true then ((spec_l11Order.f k l1 a0).bind fun t110 => (spec_PlayHeard.j0 k a0 l1 (!t110) t101 t102 t105)) else (spec_PlayHeard.j0 k a0 l1 true t101 t102 t105)) = some (r1, r2) := H
 have A3 := sA A30
 clear A30
 have HC4 := sA H
 clear H
 go_enter Try.func26, Try.ntmps26
 go_upto_region 2 with (first | ((with_reducible refine gate_callee (f := 50) rfl ?_); refine goesL_ (some 22) rfl rfl Try.func50 (by kernel_rfl) rfl #[.int .i64 a0] rfl (by (try simp only [List.map_toArray, List.map_cons, List.map_nil]); first | done | rfl | (simp only [List.length_drop, List.length_take]; rfl)) ?_; (with_reducible refine (spec_NewSender.calls a0 t101 t102 t105 t108 _ A3.out).mono ?_); rintro e w5 ⟨v103, v106, rfl, ho0, ho1, hb⟩; refine ⟨_, rfl, ?_⟩; have n0_ := sA (Kd.R_lower ho0 (below_size (by repeat (first | (with_reducible first | exact HB.out | apply sLA | apply sLN | apply sLD) | exact HB.out)))); have n1_ := sA (Kd.R_lower ho1 (below_size (by repeat (first | (with_reducible first | exact HB.out | apply sLA | apply sLN | apply sLD) | exact HB.out)))); have n2_ := sA (below_step (by repeat (first | (with_reducible first | exact HB.out | apply sLA | apply sLN | apply sLD) | exact HB.out)) hb); clear HB; have HO104 := n0_; have HO107 := n1_; have HB := n2_; clear n0_ n1_ n2_; (try clear hb); (try clear hb2); (try clear hk); (try clear hi); (try clear ho0); (try clear ho1)) | ((with_reducible refine gate_dst (N := 6) rfl ?_); refine box_event ?hg (N := 6) ?hd (cs := #[.int .i64 0, .slice none 0 0, .slice none 0 0]) (t := 31) ?hr ?_; (case hd => rfl); (case hg => rfl); (case hr => first | (go_simp; done) | (go_simp; rfl)); intro gb109 hg w6 hbox hb; have n0_ := sA (Kd.R_below (sR HO104.out) hb); have n1_ := sA (Kd.R_below (sR HO107.out) hb); have n2_ := sA (below_step (by repeat (first | (with_reducible first | exact HB.out | apply sLA | apply sLN | apply sLD) | exact HB.out)) hb); have n3_ := sA (hbox); have n4_ := sA ((by rw [hg]; exact (below_size (by repeat (first | (with_reducible first | exact HB.out | apply sLA | apply sLN | apply sLD) | exact HB.out))) : w.heap.size ≤ gb109)); have n5_ := sA ((by rw [hg]; exact (below_size (by repeat (first | (with_reducible first | exact HB.out | apply sLA | apply sLN | apply sLD) | exact HB.out))) : w.heap.size ≤ gb109)); clear HO104; clear HO107; clear HB; have HO104 := n0_; have HO107 := n1_; have HB := n2_; have BK109 := n3_; have GW109 := n4_; have GE109 := n5_; clear n0_ n1_ n2_ n3_ n4_ n5_; clear hb hbox hg; have hcz7_0 : w6.cell? ⟨gb109, 0, none⟩ = some (.int .i64 0) := sC BK109 0 rfl; have hcz7_1 : w6.cell? ⟨gb109, 1, none⟩ = some (.slice none 0 0) := sC BK109 1 rfl; have hcz7_2 : w6.cell? ⟨gb109, 2, none⟩ = some (.slice none 0 0) := sC BK109 2 rfl; have hfz7_0 := blk_frozen BK109.out 0; have hfz7_1 := blk_frozen BK109.out 1; have hfz7_2 := blk_frozen BK109.out 2; obtain ⟨Ao8, co8, eo8⟩ := Kd.R_slice HO104.out; subst eo8; obtain ⟨Ao9, co9, eo9⟩ := Kd.R_slice HO107.out; subst eo9))
 (try simp only [Act.put, sI, sZ, sV])
 go_cut [32] (fun v32 wc => ∃ (kq : Nat) (x32_3 : Bool), v32 = .bool x32_3 ∧ Aside0 (spec_PlayHeard.j0 kq a0 l1 x32_3 t101 t102 t105 = some (r1, r2)) ∧ Aside0 (kq ≤ k) ∧ Aside0 (Kd.R k59 59 wc w.heap.size (fun _ => True) (.slice Ao8 t102.length co8) t102) ∧ Aside0 (Kd.R (Kd.int .i64) 3 wc w.heap.size (fun _ => True) (.slice Ao9 t105.length co9) t105) ∧ Aside0 (wc.heap[gb109]? = some (.cells #[.int .i64 t101, (.slice Ao8 t102.length co8), (.slice Ao9 t105.length co9)] 31 (0, 0))) ∧ Aside0 (Below w.heap.size w wc))
 case first =>
  have H := HC4.out
  clear HC4
  by_cases c10 : t108 = true
  ·subst c10
   have H1 : ((spec_l11Order.f k l1 a0).bind fun t110 => (spec_PlayHeard.j0 k a0 l1 (!t110) t101 t102 t105)) = some (r1, r2) := by rw [if_pos rfl] at H; exact H
   clear H
   have H := H1
   clear H1
   replace H := Option.bind_eq_some_iff.mp H
   obtain ⟨t110, A110, H⟩ := H
   replace H : (spec_PlayHeard.j0 k a0 l1 (!t110) t101 t102 t105) = some (r1, r2) := H
   have A11 := sA A110
   clear A110
   have H' := sA H
   clear H
   go_wp2_with (first | (go_at_call 51; (with_reducible refine (spec_l11Order.calls k _ _ l1 a0 t110 _ ?side1 ?side2 A11.out).mono ?_); (case side1 => exact Kd.C_below HR1.out (by repeat (first | (with_reducible first | exact HB.out | apply sLA | apply sLN | apply sLD | refine sLS ?_ GE109.out) | exact HB.out))); (case side2 => exact HC1.out); rintro e w' ⟨rfl, ⟨nd, rfl⟩⟩))
   go_meet
   case rel => exact ⟨_, (!t110), (by first | rfl | (simp; done) | (simp [*]; done)), H', ⟨by first | omega | exact Nat.le_refl _⟩, ⟨sR (Kd.R_mono (Kd.R_far (p := ⟨gb109, 2, none⟩) (Kd.R_far (p := ⟨gb109, 1, none⟩) (Kd.R_far (p := ⟨gb109, 0, none⟩) (Kd.R_types HO104.out BK109.out (by decide)) (fun _ hk => hk.2) (.int .i64 t101)) (fun _ hk => hk.2) (.slice Ao8 t102.length co8)) (fun _ hk => hk.2) (.slice Ao9 t105.length co9)) (fun _ hk => trivial))⟩, ⟨sR (Kd.R_mono (Kd.R_far (p := ⟨gb109, 2, none⟩) (Kd.R_far (p := ⟨gb109, 1, none⟩) (Kd.R_far (p := ⟨gb109, 0, none⟩) (Kd.R_types HO107.out BK109.out (by decide)) (fun _ hk => hk.2) (.int .i64 t101)) (fun _ hk => hk.2) (.slice Ao8 t102.length co8)) (fun _ hk => hk.2) (.slice Ao9 t105.length co9)) (fun _ hk => trivial))⟩, ⟨by (with_reducible repeat first | apply blk_drewN | apply blk_drew | apply blk_alloc); refine blk_put (cs := #[.int .i64 t101, .slice Ao8 t102.length co8, .slice none 0 0]) ?_ 2 _ rfl; (with_reducible repeat first | apply blk_drewN | apply blk_drew | apply blk_alloc); refine blk_put (cs := #[.int .i64 t101, .slice none 0 0, .slice none 0 0]) ?_ 1 _ rfl; (with_reducible repeat first | apply blk_drewN | apply blk_drew | apply blk_alloc); refine blk_put (cs := #[.int .i64 0, .slice none 0 0, .slice none 0 0]) ?_ 0 _ rfl; (with_reducible repeat first | apply blk_drewN | apply blk_drew | apply blk_alloc); exact BK109.out⟩, ⟨by repeat (first | (with_reducible first | exact HB.out | apply sLA | apply sLN | apply sLD | refine sLS ?_ GE109.out) | exact HB.out)⟩⟩
  ·replace c10 := Bool.eq_false_iff.mpr c10
   subst c10
   have H1 : (spec_PlayHeard.j0 k a0 l1 true t101 t102 t105) = some (r1, r2) := by rw [if_neg (show ¬ (false = true) by decide)] at H; exact H
   clear H
   have H := H1
   clear H1
   have H' := sA H
   clear H
   go_wp2
   go_meet
   case rel => exact ⟨_, (true), (by first | rfl | (simp; done) | (simp [*]; done)), H', ⟨by first | omega | exact Nat.le_refl _⟩, ⟨sR (Kd.R_mono (Kd.R_far (p := ⟨gb109, 2, none⟩) (Kd.R_far (p := ⟨gb109, 1, none⟩) (Kd.R_far (p := ⟨gb109, 0, none⟩) (Kd.R_types HO104.out BK109.out (by decide)) (fun _ hk => hk.2) (.int .i64 t101)) (fun _ hk => hk.2) (.slice Ao8 t102.length co8)) (fun _ hk => hk.2) (.slice Ao9 t105.length co9)) (fun _ hk => trivial))⟩, ⟨sR (Kd.R_mono (Kd.R_far (p := ⟨gb109, 2, none⟩) (Kd.R_far (p := ⟨gb109, 1, none⟩) (Kd.R_far (p := ⟨gb109, 0, none⟩) (Kd.R_types HO107.out BK109.out (by decide)) (fun _ hk => hk.2) (.int .i64 t101)) (fun _ hk => hk.2) (.slice Ao8 t102.length co8)) (fun _ hk => hk.2) (.slice Ao9 t105.length co9)) (fun _ hk => trivial))⟩, ⟨by (with_reducible repeat first | apply blk_drewN | apply blk_drew | apply blk_alloc); refine blk_put (cs := #[.int .i64 t101, .slice Ao8 t102.length co8, .slice none 0 0]) ?_ 2 _ rfl; (with_reducible repeat first | apply blk_drewN | apply blk_drew | apply blk_alloc); refine blk_put (cs := #[.int .i64 t101, .slice none 0 0, .slice none 0 0]) ?_ 1 _ rfl; (with_reducible repeat first | apply blk_drewN | apply blk_drew | apply blk_alloc); refine blk_put (cs := #[.int .i64 0, .slice none 0 0, .slice none 0 0]) ?_ 0 _ rfl; (with_reducible repeat first | apply blk_drewN | apply blk_drew | apply blk_alloc); exact BK109.out⟩, ⟨by repeat (first | (with_reducible first | exact HB.out | apply sLA | apply sLN | apply sLD | refine sLS ?_ GE109.out) | exact HB.out)⟩⟩
 case rest =>
  clear HC4
  try clear c1
  try clear c2
  try clear p2
  try clear c5
  try clear c10
  try clear hcz7_0
  try clear hcz7_1
  try clear hcz7_2
  try clear hfz7_0
  try clear hfz7_1
  try clear hfz7_2
  obtain ⟨kq, x32_3, rfl, HA, HJ3, HO_110001, HO_110002, BK109, HB⟩ := hcut
  cases kq with
  | zero => exact absurd HA.out (by simp [spec_PlayHeard.j0])
  | succ kj3 =>
   have H := HA.out
   clear HA
   simp only [spec_PlayHeard.j0] at H
   by_cases c12 : x32_3 = true
   ·subst c12
    have H1 : (some (([] : List Int), false)) = some (r1, r2) := by rw [if_pos rfl] at H; exact H
    clear H
    have H := H1
    clear H1
    simp only [Option.some.injEq, Prod.mk.injEq] at H
    obtain ⟨rfl, rfl⟩ := H
    go_wp2
    go_ret2
    exact ⟨_, by first | rfl | (simp [errW_none, errW_some] <;> rfl) | (simp [*, errW_none, errW_some] <;> rfl), by first | exact Kd.R_nil _ _ _ _ _ | exact Kd.N_nil _ _ _ _ _ | exact Kd.V_nil _ _ _ _ _ | exact Kd.Q_nil _ _ _ _ _ | exact Kd.S_nil _ _ _ _ _, by repeat (first | (with_reducible first | exact HB.out | apply sLA | apply sLN | apply sLD | refine sLS ?_ GE109.out) | exact HB.out)⟩
   ·replace c12 := Bool.eq_false_iff.mpr c12
    subst c12
    have H1 : (if 0 ≤ a0 then (if (a0 : Int).toNat ≤ 281474976710656 then (spec_PlayHeard.l0 kj3 (List.replicate (a0 : Int).toNat false) l1 (l1.length : Int) 0 t101 t102 t105) else (none)) else (none)) = some (r1, r2) := by rw [if_neg (show ¬ (false = true) by decide)] at H; exact H
    clear H
    have H := H1
    clear H1
    by_cases c13 : 0 ≤ a0
    ·rw [if_pos c13] at H
     have c13b0 := eq_true c13
     have c13b1 : decide (0 ≤ a0) = true := decide_eq_true c13
     clear c13
     by_cases c14 : (a0 : Int).toNat ≤ 281474976710656
     ·rw [if_pos c14] at H
      have c14b0 := eq_true c14
      have c14b1 : decide ((a0 : Int).toNat ≤ 281474976710656) = true := decide_eq_true c14
      clear c14
      obtain ⟨y111, hy111⟩ : ∃ y_ : List Bool, y_ = (List.replicate (a0 : Int).toNat false) := ⟨_, rfl⟩
      replace H : (spec_PlayHeard.l0 kj3 y111 l1 (l1.length : Int) 0 t101 t102 t105) = some (r1, r2) := by first | (rw [hy111]; with_reducible exact H) | (have H2_ := (Option.bind_some _ _).symm.trans H; rw [hy111]; with_reducible exact H2_) | (have H2_ := (Option.bind_some _ _).symm.trans H; with_reducible exact H2_) | with_reducible exact H | (rw [hy111]; exact H) | exact H
      have Ny111 := sA hy111
      clear hy111
      have H' := sA H
      clear H
      go_wp2_with (first | ((with_reducible refine gate_dst (N := 34) rfl ?_); refine Kd.R_make Kd.bool _ 4 rfl (N := 34) rfl 71 _ _ rfl a0 rfl rfl Try.underlying71 (.bool false) 1 info4 rfl (by decide) (by omega) false (ok := fun _ => True) (okp := fun _ => True) rfl (fun _ hk => hk) trivial (of_decide_eq_true (by first | (with_reducible assumption) | assumption)) (Nat.le_trans (Nat.mul_le_mul_right _ (of_decide_eq_true (by first | (with_reducible assumption) | assumption) : a0.toNat ≤ 281474976710656)) (by omega)) (Below.refl _ _) (Nat.le_refl _) ?_; intro v112 w15 ho16 hb hg_ hnew_; clear hg_ hnew_; (first | rw [← Ny111.out] at ho16 | (simp only [Int.reduceToNat] at ho16; rw [← Ny111.out] at ho16)); have n0_ := sA (Kd.R_below (sR HO_110001.out) hb); have n1_ := sA (Kd.R_below (sR HO_110002.out) hb); have n2_ := sA (Kd.R_lower ho16 (below_size (by repeat (first | (with_reducible first | exact HB.out | apply sLA | apply sLN | apply sLD | refine sLS ?_ GE109.out) | exact HB.out)))); have n3_ := sA (blk_below (sB BK109.out) hb); have n4_ := sA (below_step (by repeat (first | (with_reducible first | exact HB.out | apply sLA | apply sLN | apply sLD | refine sLS ?_ GE109.out) | exact HB.out)) hb); clear HO_110001; clear HO_110002; clear BK109; clear HB; have HO_110001 := n0_; have HO_110002 := n1_; have HO113 := n2_; have BK109 := n3_; have HB := n4_; clear n0_ n1_ n2_ n3_ n4_; clear hb ho16))
      go_loopg [37] kj3 (fun kq v37 w' => ∃ (x8_2 : List Bool) (x37_2 : Int) (x110000_2 : Int) (x110001_2 : List (S59)) (x110002_2 : List Int) (u110001 : Value) (u110002 : Value), v37 = .int .i64 x37_2 ∧ Aside0 (spec_PlayHeard.l0 kq x8_2 l1 (l1.length : Int) x37_2 x110000_2 x110001_2 x110002_2 = some (r1, r2)) ∧ Aside0 (kq ≤ kj3) ∧ Aside0 (Kd.R Kd.bool 4 w' w.heap.size (fun _ => True) v112 x8_2) ∧ Aside0 (Kd.R k59 59 w' w.heap.size (fun _ => True) u110001 x110001_2) ∧ Aside0 (Kd.R (Kd.int .i64) 3 w' w.heap.size (fun _ => True) u110002 x110002_2) ∧ Aside0 (w'.heap[gb109]? = some (.cells #[.int .i64 x110000_2, u110001, u110002] 31 (0, 0))) ∧ Aside0 (Below w.heap.size w w'))
      case atStart => exact ⟨(y111), (0), (t101), (t102), (t105), (.slice Ao8 t102.length co8), (.slice Ao9 t105.length co9), (by first | rfl | (simp; done) | (simp [*]; done)), H', ⟨Nat.le_refl _⟩, ⟨sR HO113.out⟩, ⟨sR HO_110001.out⟩, ⟨sR HO_110002.out⟩, ⟨sB BK109.out⟩, ⟨by repeat (first | (with_reducible first | exact HB.out | apply sLA | apply sLN | apply sLD | refine sLS ?_ GE109.out) | exact HB.out)⟩⟩
      case round =>
       clear H'
       try clear c1
       try clear c2
       try clear p2
       try clear c5
       try clear c10
       try clear c12
       try clear c13
       try clear c13b0
       try clear c13b1
       try clear c14
       try clear c14b0
       try clear c14b1
       try clear hcz7_0
       try clear hcz7_1
       try clear hcz7_2
       try clear hfz7_0
       try clear hfz7_1
       try clear hfz7_2
       try clear p2
       obtain ⟨x8_2, x37_2, x110000_2, x110001_2, x110002_2, u110001, u110002, rfl, HA, HK2, HO_8, HO_110001, HO_110002, BK109, HB⟩ := hrel
       cases gk with
       | zero => exact absurd HA.out (by simp [spec_PlayHeard.l0])
       | succ k2 =>
        have H := HA.out
        clear HA
        simp only [spec_PlayHeard.l0] at H
        by_cases c17 : x37_2 < (l1.length : Int)
        ·rw [if_pos c17] at H
         have c17b0 : decide (x37_2 < (l1.length : Int)) = true := decide_eq_true c17
         clear c17
         by_cases c18 : 0 ≤ x37_2
         ·rw [if_pos c18] at H
          have c18b0 : decide (0 ≤ x37_2) = true := decide_eq_true c18
          clear c18
          by_cases c19 : x37_2 < (l1.length : Int)
          ·rw [if_pos c19] at H
           have c19b0 : decide (x37_2 < (l1.length : Int)) = true := decide_eq_true c19
           clear c19
           obtain ⟨y115, hy115⟩ : ∃ y_ : List (S59), y_ = (([(⟨rd l1 x37_2, wrap64 ((rd l1 x37_2) + 1)⟩ : S59)] : List (S59))) := ⟨_, rfl⟩
           replace H : ((spec_l11Hear.f k2 x110000_2 x110001_2 x110002_2 y115).bind fun bt118 => (if bt118.2.2.2.2.2 = true then (spec_PlayHeard.l1 k2 x8_2 l1 (l1.length : Int) x37_2 bt118.2.2.2.2.1 (bt118.2.2.2.2.1.length : Int) 0 bt118.1 bt118.2.1 bt118.2.2.1) else (some (([] : List Int), false)))) = some (r1, r2) := by first | (rw [hy115]; with_reducible exact H) | (have H2_ := (Option.bind_some _ _).symm.trans H; rw [hy115]; with_reducible exact H2_) | (have H2_ := (Option.bind_some _ _).symm.trans H; with_reducible exact H2_) | with_reducible exact H | (rw [hy115]; exact H) | exact H
           have Ny115 := sA hy115
           clear hy115
           replace H := Option.bind_eq_some_iff.mp H
           obtain ⟨⟨t118, t119, t122, t125, t128, t131⟩, A200, H⟩ := H
           replace H : (if t131 = true then (spec_PlayHeard.l1 k2 x8_2 l1 (l1.length : Int) x37_2 t128 (t128.length : Int) 0 t118 t119 t122) else (some (([] : List Int), false))) = some (r1, r2) := H
           have A20 := sA A200
           clear A200
           by_cases c21 : t131 = true
           ·subst c21
            have H1 : (spec_PlayHeard.l1 k2 x8_2 l1 (l1.length : Int) x37_2 t128 (t128.length : Int) 0 t118 t119 t122) = some (r1, r2) := by rw [if_pos rfl] at H; exact H
            clear H
            have H := H1
            clear H1
            have H' := sA H
            clear H
            have p114 : 0 ≤ (x37_2 : Int) := of_decide_eq_true (by first | (with_reducible assumption) | assumption)
            have q114 : x37_2 < (l1.length : Int) := of_decide_eq_true (by first | (with_reducible assumption) | assumption)
            obtain ⟨ad114, e114, hx114_0⟩ := Kd.at_int HR1.out x37_2 p114 q114
            cases e114
            replace hx114_0 := (HB.out.cell (World.block_lt_of_cell? w _ hx114_0)).trans hx114_0
            replace p114 := eq_true p114
            replace q114 := eq_true q114
            have hcz22_0 : wr.cell? ⟨gb109, 0, none⟩ = some (.int .i64 x110000_2) := sC BK109 0 rfl
            have hcz22_1 : wr.cell? ⟨gb109, 1, none⟩ = some (u110001) := sC BK109 1 rfl
            have hcz22_2 : wr.cell? ⟨gb109, 2, none⟩ = some (u110002) := sC BK109 2 rfl
            have hfz22_0 := blk_frozen BK109.out 0
            have hfz22_1 := blk_frozen BK109.out 1
            have hfz22_2 := blk_frozen BK109.out 2
            go_wp2_with (first | ((with_reducible refine gate_dst (N := 47) rfl ?_); refine Kd.R_lit k59 _ 59 ?hg (N := 47) ?hd (xs := ([(⟨rd l1 x37_2, wrap64 ((rd l1 x37_2) + 1)⟩ : S59)] : List (S59))) (inner := [.int .i64 (rd l1 x37_2), .int .i64 (wrap64 ((rd l1 x37_2) + 1))]) (ok := fun _ => True) (okp := fun _ => True) ?hr ?hp (fun _ hk => hk) trivial (Below.refl _ _) (Nat.le_refl _) (by simp) ?_; (case hd => rfl); (case hg => rfl); (case hr => first | (go_simp; done) | (go_simp; rfl)); (case hp => exact (Reps.c2 (show Kd.M k59 _ _ _ (⟨rd l1 x37_2, wrap64 ((rd l1 x37_2) + 1)⟩ : S59) [.int .i64 (rd l1 x37_2), .int .i64 (wrap64 ((rd l1 x37_2) + 1))] from (k59_mkM _ _ _ (⟨rd l1 x37_2, wrap64 ((rd l1 x37_2) + 1)⟩ : S59) )) (Reps.none _ _))); intro v116 w23 ho24 hb hg_ hnew_; clear hg_ hnew_; (first | rw [← Ny115.out] at ho24 | (simp only [Int.reduceToNat] at ho24; rw [← Ny115.out] at ho24)); have n0_ := sA (Kd.R_below (sR HO_8.out) hb); have n1_ := sA (Kd.R_elder' (sR HO_110001.out) (Kd.R_base ho24) hb); have n2_ := sA (Kd.R_below (sR HO_110002.out) hb); have n3_ := sA (Kd.R_lower (Kd.R_new' ho24 (Kd.R_lt (sR HO_110001.out))) (below_size (by repeat (first | (with_reducible first | exact HB.out | apply sLA | apply sLN | apply sLD | refine sLS ?_ GE109.out) | exact HB.out)))); have n4_ := sA (blk_below (sB BK109.out) hb); have n5_ := sA (below_step (by repeat (first | (with_reducible first | exact HB.out | apply sLA | apply sLN | apply sLD | refine sLS ?_ GE109.out) | exact HB.out)) hb); clear HO_8; clear HO_110001; clear HO_110002; clear BK109; clear HB; have HO_8 := n0_; have HO_110001 := n1_; have HO_110002 := n2_; have HO117 := n3_; have BK109 := n4_; have HB := n5_; clear n0_ n1_ n2_ n3_ n4_ n5_; clear hb ho24; obtain ⟨Ao25, co25, eo25⟩ := Kd.R_slice HO_110001.out; subst eo25; obtain ⟨Ao26, co26, eo26⟩ := Kd.R_slice HO_110002.out; subst eo26; obtain ⟨Ao27, co27, eo27⟩ := Kd.R_slice HO117.out; subst eo27) | ((with_reducible refine gate_callee (f := 41) rfl ?_); refine goesL_ (some 48) rfl rfl Try.func41 (by kernel_rfl) rfl #[.agg #[.int .i64 x110000_2, .slice Ao25 x110001_2.length co25, .slice Ao26 x110002_2.length co26], .slice Ao27 y115.length co27] rfl (by (try simp only [List.map_toArray, List.map_cons, List.map_nil]); first | done | rfl | (simp only [List.length_drop, List.length_take]; rfl)) ?_; (with_reducible refine (spec_l11Hear.calls k2 x110000_2 _ _ x110001_2 _ _ x110002_2 _ _ y115 t118 t119 t122 t125 t128 true _ ?side1 ?side2 ?side3 ?side4 ?side5 ?side6 A20.out).mono ?_); (case side1 => repeat (first | exact (Kd.R_reads' HO_110001.out).2.2 | (with_reducible refine Kd.C_alloc ?_ _) | (with_reducible refine Kd.C_drewN ?_ _) | (with_reducible refine Kd.C_drew ?_))); (case side2 => exact (Kd.R_reads' HO_110001.out).2.1); (case side3 => repeat (first | exact (Kd.R_reads' HO_110002.out).2.2 | (with_reducible refine Kd.C_alloc ?_ _) | (with_reducible refine Kd.C_drewN ?_ _) | (with_reducible refine Kd.C_drew ?_))); (case side4 => exact (Kd.R_reads' HO_110002.out).2.1); (case side5 => repeat (first | exact (Kd.R_reads' HO117.out).2.2 | (with_reducible refine Kd.C_alloc ?_ _) | (with_reducible refine Kd.C_drewN ?_ _) | (with_reducible refine Kd.C_drew ?_))); (case side6 => exact (Kd.R_reads' HO117.out).2.1); rintro e w28 ⟨v120, v123, v126, v129, rfl, ho0, ho1, ho2, ho3, hb⟩; refine ⟨_, rfl, ?_⟩; have n0_ := sA (Kd.R_below (sR HO_8.out) hb); have n1_ := sA (Kd.R_elder' (sR HO_110001.out) (Kd.R_base ho0) hb); have n2_ := sA (Kd.R_mono (Kd.R_told (Kd.R_told (Kd.R_told (Kd.R_old (sR HO_110002.out) hb) (Kd.R_base ho1)) (Kd.R_base ho2)) (Kd.R_base ho3)) (fun _ h_ => h_.1)); have n3_ := sA (Kd.R_elder' (sR HO117.out) (Kd.R_base ho0) hb); have n4_ := sA (Kd.R_lower (Kd.R_new' (Kd.R_new' ho0 (Kd.R_lt (sR HO_110001.out))) (Kd.R_lt (sR HO117.out))) (below_size (by repeat (first | (with_reducible first | exact HB.out | apply sLA | apply sLN | apply sLD | refine sLS ?_ GE109.out) | exact HB.out)))); have n5_ := sA (Kd.R_lower (Kd.R_new' ho1 (Kd.R_lt (sR HO_110002.out))) (below_size (by repeat (first | (with_reducible first | exact HB.out | apply sLA | apply sLN | apply sLD | refine sLS ?_ GE109.out) | exact HB.out)))); have n6_ := sA (Kd.R_lower (Kd.R_new' ho2 (Kd.R_lt (sR HO_110002.out))) (below_size (by repeat (first | (with_reducible first | exact HB.out | apply sLA | apply sLN | apply sLD | refine sLS ?_ GE109.out) | exact HB.out)))); have n7_ := sA (Kd.R_lower (Kd.R_new' ho3 (Kd.R_lt (sR HO_110002.out))) (below_size (by repeat (first | (with_reducible first | exact HB.out | apply sLA | apply sLN | apply sLD | refine sLS ?_ GE109.out) | exact HB.out)))); have n8_ := sA (blk_below (sB BK109.out) hb); have n9_ := sA (below_step (by repeat (first | (with_reducible first | exact HB.out | apply sLA | apply sLN | apply sLD | refine sLS ?_ GE109.out) | exact HB.out)) hb); clear HO_8; clear HO_110001; clear HO_110002; clear HO117; clear BK109; clear HB; have HO_8 := n0_; have HO_110001 := n1_; have HO_110002 := n2_; have HO117 := n3_; have HO121 := n4_; have HO124 := n5_; have HO127 := n6_; have HO130 := n7_; have BK109 := n8_; have HB := n9_; clear n0_ n1_ n2_ n3_ n4_ n5_ n6_ n7_ n8_ n9_; (try clear hb); (try clear hb2); (try clear hk); (try clear hi); (try clear ho0); (try clear ho1); (try clear ho2); (try clear ho3)) | ((with_reducible refine gate_dst (N := 11) rfl ?_); refine box_event ?hg (N := 11) ?hd (cs := #[.int .i64 0, .slice none 0 0, .slice none 0 0]) (t := 31) ?hr ?_; (case hd => rfl); (case hg => rfl); (case hr => first | (go_simp; done) | (go_simp; rfl)); intro gb132 hg w29 hbox hb; have n0_ := sA (Kd.R_below (sR HO_8.out) hb); have n1_ := sA (Kd.R_below (sR HO_110001.out) hb); have n2_ := sA (Kd.R_below (sR HO_110002.out) hb); have n3_ := sA (Kd.R_below (sR HO117.out) hb); have n4_ := sA (Kd.R_below (sR HO121.out) hb); have n5_ := sA (Kd.R_below (sR HO124.out) hb); have n6_ := sA (Kd.R_below (sR HO127.out) hb); have n7_ := sA (Kd.R_below (sR HO130.out) hb); have n8_ := sA (blk_below (sB BK109.out) hb); have n9_ := sA (below_step (by repeat (first | (with_reducible first | exact HB.out | apply sLA | apply sLN | apply sLD | refine sLS ?_ GE109.out) | exact HB.out)) hb); have n10_ := sA (hbox); have n11_ := sA ((by rw [hg]; exact (below_size (by repeat (first | (with_reducible first | exact HB.out | apply sLA | apply sLN | apply sLD | refine sLS ?_ GE109.out) | exact HB.out))) : w.heap.size ≤ gb132)); have n12_ := sA ((by rw [hg]; exact (below_size (by repeat (first | (with_reducible first | exact HB.out | apply sLA | apply sLN | apply sLD | refine sLS ?_ GE109.out) | exact HB.out))) : w.heap.size ≤ gb132)); have n13_ := sA ((by rw [hg]; exact Nat.ne_of_lt (blk_lt (sB BK109.out)) : gb109 ≠ gb132)); have n14_ := sA ((by rw [hg]; exact Nat.ne_of_gt (blk_lt (sB BK109.out)) : gb132 ≠ gb109)); clear HO_8; clear HO_110001; clear HO_110002; clear HO117; clear HO121; clear HO124; clear HO127; clear HO130; clear BK109; clear HB; have HO_8 := n0_; have HO_110001 := n1_; have HO_110002 := n2_; have HO117 := n3_; have HO121 := n4_; have HO124 := n5_; have HO127 := n6_; have HO130 := n7_; have BK109 := n8_; have HB := n9_; have BK132 := n10_; have GW132 := n11_; have GE132 := n12_; have NB109_132 := n13_; have NB132_109 := n14_; clear n0_ n1_ n2_ n3_ n4_ n5_ n6_ n7_ n8_ n9_ n10_ n11_ n12_ n13_ n14_; clear hb hbox hg; have hnb30 := NB132_109.out; have hnc30 := NB109_132.out; have hcz31_0 : w29.cell? ⟨gb132, 0, none⟩ = some (.int .i64 0) := sC BK132 0 rfl; have hcz31_1 : w29.cell? ⟨gb132, 1, none⟩ = some (.slice none 0 0) := sC BK132 1 rfl; have hcz31_2 : w29.cell? ⟨gb132, 2, none⟩ = some (.slice none 0 0) := sC BK132 2 rfl; have hfz31_0 := blk_frozen BK132.out 0; have hfz31_1 := blk_frozen BK132.out 1; have hfz31_2 := blk_frozen BK132.out 2; obtain ⟨Ao32, co32, eo32⟩ := Kd.R_slice HO121.out; subst eo32; obtain ⟨Ao33, co33, eo33⟩ := Kd.R_slice HO124.out; subst eo33; have hcz34_0 : w29.cell? ⟨gb109, 0, none⟩ = some (.int .i64 x110000_2) := sC BK109 0 rfl; have hcz34_1 : w29.cell? ⟨gb109, 1, none⟩ = some (.slice Ao25 x110001_2.length co25) := sC BK109 1 rfl; have hcz34_2 : w29.cell? ⟨gb109, 2, none⟩ = some (.slice Ao26 x110002_2.length co26) := sC BK109 2 rfl; have hfz34_0 := blk_frozen BK109.out 0; have hfz34_1 := blk_frozen BK109.out 1; have hfz34_2 := blk_frozen BK109.out 2; obtain ⟨Ao35, co35, eo35⟩ := Kd.R_slice HO130.out; subst eo35))
            go_loopg [58] k2 (fun kq v58 w' => ∃ (x8_3 : List Bool) (x58_3 : Int), v58 = .int .i64 x58_3 ∧ Aside0 (spec_PlayHeard.l1 kq x8_3 l1 (l1.length : Int) x37_2 t128 (t128.length : Int) x58_3 t118 t119 t122 = some (r1, r2)) ∧ Aside0 (kq ≤ k2) ∧ Aside0 (Kd.R Kd.bool 4 w' w.heap.size (fun _ => True) v112 x8_3) ∧ Aside0 (Kd.R (Kd.int .i64) 3 w' w.heap.size (fun k_ => some k_ ≠ ((.slice Ao33 t122.length co33) : Value).ownBlock ∧ some k_ ≠ ((.slice Ao33 t122.length co33) : Value).ownBlock) (.slice Ao35 t128.length co35) t128) ∧ Aside0 (Kd.R k59 59 w' w.heap.size (fun _ => True) (.slice Ao32 t119.length co32) t119) ∧ Aside0 (Kd.R (Kd.int .i64) 3 w' w.heap.size (fun k_ => some k_ ≠ ((.slice Ao35 t128.length co35) : Value).ownBlock) (.slice Ao33 t122.length co33) t122) ∧ Aside0 (Kd.R k59 59 w' w.heap.size (fun _ => True) (.slice Ao32 t119.length co32) t119) ∧ Aside0 (Kd.R (Kd.int .i64) 3 w' w.heap.size (fun k_ => some k_ ≠ ((.slice Ao35 t128.length co35) : Value).ownBlock) (.slice Ao33 t122.length co33) t122) ∧ Aside0 (w'.heap[gb109]? = some (.cells #[.int .i64 t118, (.slice Ao32 t119.length co32), (.slice Ao33 t122.length co33)] 31 (0, 0))) ∧ Aside0 (w'.heap[gb132]? = some (.cells #[.int .i64 t118, (.slice Ao32 t119.length co32), (.slice Ao33 t122.length co33)] 31 (0, 0))) ∧ Aside0 (Below w.heap.size w w'))
            case atStart => exact ⟨(x8_2), (0), (by first | rfl | (simp; done) | (simp [*]; done)), H', ⟨Nat.le_refl _⟩, ⟨sR (Kd.R_mono (Kd.R_far (p := ⟨gb109, 2, none⟩) (Kd.R_far (p := ⟨gb109, 1, none⟩) (Kd.R_far (p := ⟨gb109, 0, none⟩) (Kd.R_far (p := ⟨gb132, 2, none⟩) (Kd.R_far (p := ⟨gb132, 1, none⟩) (Kd.R_far (p := ⟨gb132, 0, none⟩) (Kd.R_types (Kd.R_types HO_8.out BK132.out (by decide)) BK109.out (by decide)) (fun _ hk => hk.1.2) (.int .i64 t118)) (fun _ hk => hk.1.2) (.slice Ao32 t119.length co32)) (fun _ hk => hk.1.2) (.slice Ao33 t122.length co33)) (fun _ hk => hk.2) (.int .i64 t118)) (fun _ hk => hk.2) (.slice Ao32 t119.length co32)) (fun _ hk => hk.2) (.slice Ao33 t122.length co33)) (fun _ hk => trivial))⟩, ⟨sR (Kd.R_mono (Kd.R_far (p := ⟨gb109, 2, none⟩) (Kd.R_far (p := ⟨gb109, 1, none⟩) (Kd.R_far (p := ⟨gb109, 0, none⟩) (Kd.R_far (p := ⟨gb132, 2, none⟩) (Kd.R_far (p := ⟨gb132, 1, none⟩) (Kd.R_far (p := ⟨gb132, 0, none⟩) (Kd.R_types (Kd.R_types HO130.out BK132.out (by decide)) BK109.out (by decide)) (fun _ hk => hk.1.2) (.int .i64 t118)) (fun _ hk => hk.1.2) (.slice Ao32 t119.length co32)) (fun _ hk => hk.1.2) (.slice Ao33 t122.length co33)) (fun _ hk => hk.2) (.int .i64 t118)) (fun _ hk => hk.2) (.slice Ao32 t119.length co32)) (fun _ hk => hk.2) (.slice Ao33 t122.length co33)) (fun _ hk => ⟨hk.1.1.1.1, hk.1.1.1.1⟩))⟩, ⟨sR (Kd.R_mono (Kd.R_far (p := ⟨gb109, 2, none⟩) (Kd.R_far (p := ⟨gb109, 1, none⟩) (Kd.R_far (p := ⟨gb109, 0, none⟩) (Kd.R_far (p := ⟨gb132, 2, none⟩) (Kd.R_far (p := ⟨gb132, 1, none⟩) (Kd.R_far (p := ⟨gb132, 0, none⟩) (Kd.R_types (Kd.R_types HO121.out BK132.out (by decide)) BK109.out (by decide)) (fun _ hk => hk.1.2) (.int .i64 t118)) (fun _ hk => hk.1.2) (.slice Ao32 t119.length co32)) (fun _ hk => hk.1.2) (.slice Ao33 t122.length co33)) (fun _ hk => hk.2) (.int .i64 t118)) (fun _ hk => hk.2) (.slice Ao32 t119.length co32)) (fun _ hk => hk.2) (.slice Ao33 t122.length co33)) (fun _ hk => trivial))⟩, ⟨sR (Kd.R_mono (Kd.R_far (p := ⟨gb109, 2, none⟩) (Kd.R_far (p := ⟨gb109, 1, none⟩) (Kd.R_far (p := ⟨gb109, 0, none⟩) (Kd.R_far (p := ⟨gb132, 2, none⟩) (Kd.R_far (p := ⟨gb132, 1, none⟩) (Kd.R_far (p := ⟨gb132, 0, none⟩) (Kd.R_types (Kd.R_types HO124.out BK132.out (by decide)) BK109.out (by decide)) (fun _ hk => hk.1.2) (.int .i64 t118)) (fun _ hk => hk.1.2) (.slice Ao32 t119.length co32)) (fun _ hk => hk.1.2) (.slice Ao33 t122.length co33)) (fun _ hk => hk.2) (.int .i64 t118)) (fun _ hk => hk.2) (.slice Ao32 t119.length co32)) (fun _ hk => hk.2) (.slice Ao33 t122.length co33)) (fun _ hk => hk.1.1.1.2))⟩, ⟨sR (Kd.R_mono (Kd.R_far (p := ⟨gb109, 2, none⟩) (Kd.R_far (p := ⟨gb109, 1, none⟩) (Kd.R_far (p := ⟨gb109, 0, none⟩) (Kd.R_far (p := ⟨gb132, 2, none⟩) (Kd.R_far (p := ⟨gb132, 1, none⟩) (Kd.R_far (p := ⟨gb132, 0, none⟩) (Kd.R_types (Kd.R_types HO121.out BK132.out (by decide)) BK109.out (by decide)) (fun _ hk => hk.1.2) (.int .i64 t118)) (fun _ hk => hk.1.2) (.slice Ao32 t119.length co32)) (fun _ hk => hk.1.2) (.slice Ao33 t122.length co33)) (fun _ hk => hk.2) (.int .i64 t118)) (fun _ hk => hk.2) (.slice Ao32 t119.length co32)) (fun _ hk => hk.2) (.slice Ao33 t122.length co33)) (fun _ hk => trivial))⟩, ⟨sR (Kd.R_mono (Kd.R_far (p := ⟨gb109, 2, none⟩) (Kd.R_far (p := ⟨gb109, 1, none⟩) (Kd.R_far (p := ⟨gb109, 0, none⟩) (Kd.R_far (p := ⟨gb132, 2, none⟩) (Kd.R_far (p := ⟨gb132, 1, none⟩) (Kd.R_far (p := ⟨gb132, 0, none⟩) (Kd.R_types (Kd.R_types HO124.out BK132.out (by decide)) BK109.out (by decide)) (fun _ hk => hk.1.2) (.int .i64 t118)) (fun _ hk => hk.1.2) (.slice Ao32 t119.length co32)) (fun _ hk => hk.1.2) (.slice Ao33 t122.length co33)) (fun _ hk => hk.2) (.int .i64 t118)) (fun _ hk => hk.2) (.slice Ao32 t119.length co32)) (fun _ hk => hk.2) (.slice Ao33 t122.length co33)) (fun _ hk => hk.1.1.1.2))⟩, ⟨by (with_reducible repeat first | apply blk_drewN | apply blk_drew | apply blk_alloc); refine blk_put (cs := #[.int .i64 t118, .slice Ao32 t119.length co32, .slice Ao26 x110002_2.length co26]) ?_ 2 _ rfl; (with_reducible repeat first | apply blk_drewN | apply blk_drew | apply blk_alloc); refine blk_put (cs := #[.int .i64 t118, .slice Ao25 x110001_2.length co25, .slice Ao26 x110002_2.length co26]) ?_ 1 _ rfl; (with_reducible repeat first | apply blk_drewN | apply blk_drew | apply blk_alloc); refine blk_put (cs := #[.int .i64 x110000_2, .slice Ao25 x110001_2.length co25, .slice Ao26 x110002_2.length co26]) ?_ 0 _ rfl; (with_reducible repeat first | apply blk_drewN | apply blk_drew | apply blk_alloc); refine blk_far ?_ NB109_132.out _; (with_reducible repeat first | apply blk_drewN | apply blk_drew | apply blk_alloc); refine blk_far ?_ NB109_132.out _; (with_reducible repeat first | apply blk_drewN | apply blk_drew | apply blk_alloc); refine blk_far ?_ NB109_132.out _; (with_reducible repeat first | apply blk_drewN | apply blk_drew | apply blk_alloc); exact BK109.out⟩, ⟨by (with_reducible repeat first | apply blk_drewN | apply blk_drew | apply blk_alloc); refine blk_far ?_ NB132_109.out _; (with_reducible repeat first | apply blk_drewN | apply blk_drew | apply blk_alloc); refine blk_far ?_ NB132_109.out _; (with_reducible repeat first | apply blk_drewN | apply blk_drew | apply blk_alloc); refine blk_far ?_ NB132_109.out _; (with_reducible repeat first | apply blk_drewN | apply blk_drew | apply blk_alloc); refine blk_put (cs := #[.int .i64 t118, .slice Ao32 t119.length co32, .slice none 0 0]) ?_ 2 _ rfl; (with_reducible repeat first | apply blk_drewN | apply blk_drew | apply blk_alloc); refine blk_put (cs := #[.int .i64 t118, .slice none 0 0, .slice none 0 0]) ?_ 1 _ rfl; (with_reducible repeat first | apply blk_drewN | apply blk_drew | apply blk_alloc); refine blk_put (cs := #[.int .i64 0, .slice none 0 0, .slice none 0 0]) ?_ 0 _ rfl; (with_reducible repeat first | apply blk_drewN | apply blk_drew | apply blk_alloc); exact BK132.out⟩, ⟨by repeat (first | (with_reducible first | exact HB.out | apply sLA | apply sLN | apply sLD | refine sLS ?_ GE109.out | refine sLS ?_ GE132.out) | exact HB.out)⟩⟩
            case round =>
             clear H'
             try clear c1
             try clear p1
             try clear q1
             try clear hx1
             try clear c2
             try clear p2
             try clear c3
             try clear c4
             try clear c5
             try clear p6
             try clear c10
             try clear p11
             try clear q11
             try clear hx11
             try clear c12
             try clear c13
             try clear c13b0
             try clear c13b1
             try clear c14
             try clear c14b0
             try clear c14b1
             try clear c17
             try clear c17b0
             try clear c18
             try clear c18b0
             try clear c19
             try clear c19b0
             try clear c21
             try clear c26
             try clear c30
             try clear hcz22_0
             try clear hcz22_1
             try clear hcz22_2
             try clear hcz31_0
             try clear hcz31_1
             try clear hcz31_2
             try clear hcz34_0
             try clear hcz34_1
             try clear hcz34_2
             try clear hcz7_0
             try clear hcz7_1
             try clear hcz7_2
             try clear hfz22_0
             try clear hfz22_1
             try clear hfz22_2
             try clear hfz31_0
             try clear hfz31_1
             try clear hfz31_2
             try clear hfz34_0
             try clear hfz34_1
             try clear hfz34_2
             try clear hfz7_0
             try clear hfz7_1
             try clear hfz7_2
             try clear hx114_0
             try clear p114
             try clear p2
             try clear q114
             obtain ⟨x8_3, x58_3, rfl, HA, HK3, HO_8, HO_56, HO_110001, HO_110002, HO_133001, HO_133002, BK109, BK132, HB⟩ := hrel
             cases gk with
             | zero => exact absurd HA.out (by simp [spec_PlayHeard.l1])
             | succ k3 =>
              have H := HA.out
              clear HA
              simp only [spec_PlayHeard.l1] at H
              by_cases c36 : x58_3 < (t128.length : Int)
              ·rw [if_pos c36] at H
               have c36b0 : decide (x58_3 < (t128.length : Int)) = true := decide_eq_true c36
               clear c36
               by_cases c37 : 0 ≤ x58_3
               ·rw [if_pos c37] at H
                have c37b0 : decide (0 ≤ x58_3) = true := decide_eq_true c37
                clear c37
                by_cases c38 : x58_3 < (t128.length : Int)
                ·rw [if_pos c38] at H
                 have c38b0 : decide (x58_3 < (t128.length : Int)) = true := decide_eq_true c38
                 clear c38
                 by_cases c39 : 0 ≤ (rd t128 x58_3)
                 ·rw [if_pos c39] at H
                  have c39b0 : decide (0 ≤ (rd t128 x58_3)) = true := decide_eq_true c39
                  clear c39
                  by_cases c40 : (rd t128 x58_3) < (x8_3.length : Int)
                  ·rw [if_pos c40] at H
                   have c40b0 : decide ((rd t128 x58_3) < (x8_3.length : Int)) = true := decide_eq_true c40
                   clear c40
                   obtain ⟨y134, hy134⟩ : ∃ y_ : List Bool, y_ = (x8_3.set ((rd t128 x58_3) : Int).toNat true) := ⟨_, rfl⟩
                   replace H : (spec_PlayHeard.l1 k3 y134 l1 (l1.length : Int) x37_2 t128 (t128.length : Int) (wrap64 (x58_3 + 1)) t118 t119 t122) = some (r1, r2) := by first | (rw [hy134]; with_reducible exact H) | (have H2_ := (Option.bind_some _ _).symm.trans H; rw [hy134]; with_reducible exact H2_) | (have H2_ := (Option.bind_some _ _).symm.trans H; with_reducible exact H2_) | with_reducible exact H | (rw [hy134]; exact H) | exact H
                   have Ny134 := sA hy134
                   clear hy134
                   have H' := sA H
                   clear H
                   have p133 : 0 ≤ (x58_3 : Int) := of_decide_eq_true (by first | (with_reducible assumption) | assumption)
                   have q133 : x58_3 < (t128.length : Int) := of_decide_eq_true (by first | (with_reducible assumption) | assumption)
                   obtain ⟨ad133, e133, hx133_0⟩ := Kd.at_int (Kd.R_reads' HO_56.out).2.2 x58_3 p133 q133
                   cases e133
                   replace p133 := eq_true p133
                   replace q133 := eq_true q133
                   have p41 : 0 ≤ ((rd t128 x58_3) : Int) := of_decide_eq_true (by first | (with_reducible assumption) | assumption)
                   have q41 : ((rd t128 x58_3) : Int) < ((x8_3.length : Int) : Int) := of_decide_eq_true (by first | (with_reducible assumption) | assumption)
                   obtain ⟨go41, co41, eo41, gb41, gl41, cl41, HG41⟩ := Kd.R_form HO_8.out (by omega)
                   (first | cases eo41 | (injection eo41 with ea_ en_ ec_; (first | subst ea_ | (injection ea_ with ea_; subst ea_)); subst ec_; clear en_))
                   have GB41 := sA gb41
                   have GG41 := sA HG41
                   clear gb41 gl41 HG41
                   obtain ⟨hx41_0, hf41_0⟩ := Kd.R_celln false HO_8.out ((rd t128 x58_3) : Int) p41 q41
                   replace p41 := eq_true p41
                   replace q41 := eq_true q41
                   have HP42 := Kd.R_putg HO_8.out ((rd t128 x58_3) : Int) true
                   go_wp2_with (first | ((with_reducible refine gate_store (t := 4) (p := 64) rfl ?_); refine store_event (t := 4) (p := 64) (v := ?vo_w43) (w1 := (wr.setCell ⟨go41, ((rd t128 x58_3) : Int).toNat, none⟩ (.bool true))) ?hg ?ho ?hn ?hr ?_; (case ho => rfl); (case hg => rfl); (case hn => rfl); (case hr => first | (go_simp; done) | (go_simp; rfl)); intro w43 hw; have hg : wr.grownBy w43 (some go41) := (by rw [hw]; exact HP42.2); have hp_ : Kd.R Kd.bool 4 w43 w.heap.size (fun _ => True) (.slice (some ⟨go41, 0, none⟩) x8_3.length co41) y134 := (by rw [hw, Ny134.out]; exact HP42.1); clear HP42; have n0_ := sA (hp_); have n1_ := sA (Kd.R_over' (v := (.slice (some ⟨go41, 0, none⟩) x8_3.length co41)) (sR HO_56.out) (Kd.R_typed HO_8.out) (by decide) hg); have n2_ := sA (Kd.R_over' (v := (.slice (some ⟨go41, 0, none⟩) x8_3.length co41)) (sR HO_110001.out) (Kd.R_typed HO_8.out) (by decide) hg); have n3_ := sA (Kd.R_over' (v := (.slice (some ⟨go41, 0, none⟩) x8_3.length co41)) (sR HO_110002.out) (Kd.R_typed HO_8.out) (by decide) hg); have n4_ := sA (Kd.R_over' (v := (.slice (some ⟨go41, 0, none⟩) x8_3.length co41)) (sR HO_133001.out) (Kd.R_typed HO_8.out) (by decide) hg); have n5_ := sA (Kd.R_over' (v := (.slice (some ⟨go41, 0, none⟩) x8_3.length co41)) (sR HO_133002.out) (Kd.R_typed HO_8.out) (by decide) hg); have n6_ := sA (blk_grown (g := gb109) (o := .cells #[.int .i64 t118, .slice Ao32 t119.length co32, .slice Ao33 t122.length co33] 31 (0, 0)) (sB BK109.out) hg (Kd.R_ne HO_8.out BK109.out (by decide))); have n7_ := sA (blk_grown (g := gb132) (o := .cells #[.int .i64 t118, .slice Ao32 t119.length co32, .slice Ao33 t122.length co33] 31 (0, 0)) (sB BK132.out) hg (Kd.R_ne HO_8.out BK132.out (by decide))); have n8_ := sA ((by rw [hw]; exact below_set (HB.out) GB41.out : Below w.heap.size w w43)); clear HO_8; clear HO_56; clear HO_110001; clear HO_110002; clear HO_133001; clear HO_133002; clear BK109; clear BK132; clear HB; have HO_8 := n0_; have HO_56 := n1_; have HO_110001 := n2_; have HO_110002 := n3_; have HO_133001 := n4_; have HO_133002 := n5_; have BK109 := n6_; have BK132 := n7_; have HB := n8_; clear n0_ n1_ n2_ n3_ n4_ n5_ n6_ n7_ n8_; clear hg hw hp_))
                   go_roundg k3
                   case measure => have := HJ3.out; have := HK2.out; have := HK3.out; omega
                   case rel => exact ⟨(y134), (wrap64 (x58_3 + 1)), (by first | rfl | (simp; done) | (simp [*]; done)), H', ⟨by have := HJ3.out; have := HK2.out; have := HK3.out; omega⟩, ⟨sR HO_8.out⟩, ⟨sR HO_56.out⟩, ⟨sR HO_110001.out⟩, ⟨sR HO_110002.out⟩, ⟨sR HO_133001.out⟩, ⟨sR HO_133002.out⟩, ⟨sB BK109.out⟩, ⟨sB BK132.out⟩, ⟨by repeat (first | (with_reducible first | exact HB.out | apply sLA | apply sLN | apply sLD | refine sLS ?_ GE109.out | refine sLS ?_ GE132.out) | exact HB.out)⟩⟩
                  ·rw [if_neg c40] at H
                   exact absurd H (by simp)
                 ·rw [if_neg c39] at H
                  exact absurd H (by simp)
                ·rw [if_neg c38] at H
                 exact absurd H (by simp)
               ·rw [if_neg c37] at H
                exact absurd H (by simp)
              ·rw [if_neg c36] at H
               have c36b0 : decide (x58_3 < (t128.length : Int)) = false := decide_eq_false c36
               clear c36
               have H' := sA H
               clear H
               go_wp2
               go_roundg k3
               case measure => have := HJ3.out; have := HK2.out; have := HK3.out; omega
               case rel => exact ⟨(x8_3), (wrap64 (x37_2 + 1)), (t118), (t119), (t122), (.slice Ao32 t119.length co32), (.slice Ao33 t122.length co33), (by first | rfl | (simp; done) | (simp [*]; done)), H', ⟨by have := HJ3.out; have := HK2.out; have := HK3.out; omega⟩, ⟨sR HO_8.out⟩, ⟨sR HO_110001.out⟩, ⟨sR (Kd.R_mono HO_110002.out (fun _ hk => trivial))⟩, ⟨sB BK109.out⟩, ⟨by repeat (first | (with_reducible first | exact HB.out | apply sLA | apply sLN | apply sLD | refine sLS ?_ GE109.out | refine sLS ?_ GE132.out) | exact HB.out)⟩⟩
           ·replace c21 := Bool.eq_false_iff.mpr c21
            subst c21
            have H1 : (some (([] : List Int), false)) = some (r1, r2) := by rw [if_neg (show ¬ (false = true) by decide)] at H; exact H
            clear H
            have H := H1
            clear H1
            simp only [Option.some.injEq, Prod.mk.injEq] at H
            obtain ⟨rfl, rfl⟩ := H
            have p114 : 0 ≤ (x37_2 : Int) := of_decide_eq_true (by first | (with_reducible assumption) | assumption)
            have q114 : x37_2 < (l1.length : Int) := of_decide_eq_true (by first | (with_reducible assumption) | assumption)
            obtain ⟨ad114, e114, hx114_0⟩ := Kd.at_int HR1.out x37_2 p114 q114
            cases e114
            replace hx114_0 := (HB.out.cell (World.block_lt_of_cell? w _ hx114_0)).trans hx114_0
            replace p114 := eq_true p114
            replace q114 := eq_true q114
            have hcz44_0 : wr.cell? ⟨gb109, 0, none⟩ = some (.int .i64 x110000_2) := sC BK109 0 rfl
            have hcz44_1 : wr.cell? ⟨gb109, 1, none⟩ = some (u110001) := sC BK109 1 rfl
            have hcz44_2 : wr.cell? ⟨gb109, 2, none⟩ = some (u110002) := sC BK109 2 rfl
            have hfz44_0 := blk_frozen BK109.out 0
            have hfz44_1 := blk_frozen BK109.out 1
            have hfz44_2 := blk_frozen BK109.out 2
            go_wp2_with (first | ((with_reducible refine gate_dst (N := 47) rfl ?_); refine Kd.R_lit k59 _ 59 ?hg (N := 47) ?hd (xs := ([(⟨rd l1 x37_2, wrap64 ((rd l1 x37_2) + 1)⟩ : S59)] : List (S59))) (inner := [.int .i64 (rd l1 x37_2), .int .i64 (wrap64 ((rd l1 x37_2) + 1))]) (ok := fun _ => True) (okp := fun _ => True) ?hr ?hp (fun _ hk => hk) trivial (Below.refl _ _) (Nat.le_refl _) (by simp) ?_; (case hd => rfl); (case hg => rfl); (case hr => first | (go_simp; done) | (go_simp; rfl)); (case hp => exact (Reps.c2 (show Kd.M k59 _ _ _ (⟨rd l1 x37_2, wrap64 ((rd l1 x37_2) + 1)⟩ : S59) [.int .i64 (rd l1 x37_2), .int .i64 (wrap64 ((rd l1 x37_2) + 1))] from (k59_mkM _ _ _ (⟨rd l1 x37_2, wrap64 ((rd l1 x37_2) + 1)⟩ : S59) )) (Reps.none _ _))); intro v116 w45 ho46 hb hg_ hnew_; clear hg_ hnew_; (first | rw [← Ny115.out] at ho46 | (simp only [Int.reduceToNat] at ho46; rw [← Ny115.out] at ho46)); have n0_ := sA (Kd.R_below (sR HO_8.out) hb); have n1_ := sA (Kd.R_elder' (sR HO_110001.out) (Kd.R_base ho46) hb); have n2_ := sA (Kd.R_below (sR HO_110002.out) hb); have n3_ := sA (Kd.R_lower (Kd.R_new' ho46 (Kd.R_lt (sR HO_110001.out))) (below_size (by repeat (first | (with_reducible first | exact HB.out | apply sLA | apply sLN | apply sLD | refine sLS ?_ GE109.out) | exact HB.out)))); have n4_ := sA (blk_below (sB BK109.out) hb); have n5_ := sA (below_step (by repeat (first | (with_reducible first | exact HB.out | apply sLA | apply sLN | apply sLD | refine sLS ?_ GE109.out) | exact HB.out)) hb); clear HO_8; clear HO_110001; clear HO_110002; clear BK109; clear HB; have HO_8 := n0_; have HO_110001 := n1_; have HO_110002 := n2_; have HO117 := n3_; have BK109 := n4_; have HB := n5_; clear n0_ n1_ n2_ n3_ n4_ n5_; clear hb ho46; obtain ⟨Ao47, co47, eo47⟩ := Kd.R_slice HO_110001.out; subst eo47; obtain ⟨Ao48, co48, eo48⟩ := Kd.R_slice HO_110002.out; subst eo48; obtain ⟨Ao49, co49, eo49⟩ := Kd.R_slice HO117.out; subst eo49) | ((with_reducible refine gate_callee (f := 41) rfl ?_); refine goesL_ (some 48) rfl rfl Try.func41 (by kernel_rfl) rfl #[.agg #[.int .i64 x110000_2, .slice Ao47 x110001_2.length co47, .slice Ao48 x110002_2.length co48], .slice Ao49 y115.length co49] rfl (by (try simp only [List.map_toArray, List.map_cons, List.map_nil]); first | done | rfl | (simp only [List.length_drop, List.length_take]; rfl)) ?_; (with_reducible refine (spec_l11Hear.calls k2 x110000_2 _ _ x110001_2 _ _ x110002_2 _ _ y115 t118 t119 t122 t125 t128 false _ ?side1 ?side2 ?side3 ?side4 ?side5 ?side6 A20.out).mono ?_); (case side1 => repeat (first | exact (Kd.R_reads' HO_110001.out).2.2 | (with_reducible refine Kd.C_alloc ?_ _) | (with_reducible refine Kd.C_drewN ?_ _) | (with_reducible refine Kd.C_drew ?_))); (case side2 => exact (Kd.R_reads' HO_110001.out).2.1); (case side3 => repeat (first | exact (Kd.R_reads' HO_110002.out).2.2 | (with_reducible refine Kd.C_alloc ?_ _) | (with_reducible refine Kd.C_drewN ?_ _) | (with_reducible refine Kd.C_drew ?_))); (case side4 => exact (Kd.R_reads' HO_110002.out).2.1); (case side5 => repeat (first | exact (Kd.R_reads' HO117.out).2.2 | (with_reducible refine Kd.C_alloc ?_ _) | (with_reducible refine Kd.C_drewN ?_ _) | (with_reducible refine Kd.C_drew ?_))); (case side6 => exact (Kd.R_reads' HO117.out).2.1); rintro e w50 ⟨v120, v123, v126, v129, rfl, ho0, ho1, ho2, ho3, hb⟩; refine ⟨_, rfl, ?_⟩; have n0_ := sA (Kd.R_below (sR HO_8.out) hb); have n1_ := sA (Kd.R_elder' (sR HO_110001.out) (Kd.R_base ho0) hb); have n2_ := sA (Kd.R_mono (Kd.R_told (Kd.R_told (Kd.R_told (Kd.R_old (sR HO_110002.out) hb) (Kd.R_base ho1)) (Kd.R_base ho2)) (Kd.R_base ho3)) (fun _ h_ => h_.1)); have n3_ := sA (Kd.R_elder' (sR HO117.out) (Kd.R_base ho0) hb); have n4_ := sA (Kd.R_lower (Kd.R_new' (Kd.R_new' ho0 (Kd.R_lt (sR HO_110001.out))) (Kd.R_lt (sR HO117.out))) (below_size (by repeat (first | (with_reducible first | exact HB.out | apply sLA | apply sLN | apply sLD | refine sLS ?_ GE109.out) | exact HB.out)))); have n5_ := sA (Kd.R_lower (Kd.R_new' ho1 (Kd.R_lt (sR HO_110002.out))) (below_size (by repeat (first | (with_reducible first | exact HB.out | apply sLA | apply sLN | apply sLD | refine sLS ?_ GE109.out) | exact HB.out)))); have n6_ := sA (Kd.R_lower (Kd.R_new' ho2 (Kd.R_lt (sR HO_110002.out))) (below_size (by repeat (first | (with_reducible first | exact HB.out | apply sLA | apply sLN | apply sLD | refine sLS ?_ GE109.out) | exact HB.out)))); have n7_ := sA (Kd.R_lower (Kd.R_new' ho3 (Kd.R_lt (sR HO_110002.out))) (below_size (by repeat (first | (with_reducible first | exact HB.out | apply sLA | apply sLN | apply sLD | refine sLS ?_ GE109.out) | exact HB.out)))); have n8_ := sA (blk_below (sB BK109.out) hb); have n9_ := sA (below_step (by repeat (first | (with_reducible first | exact HB.out | apply sLA | apply sLN | apply sLD | refine sLS ?_ GE109.out) | exact HB.out)) hb); clear HO_8; clear HO_110001; clear HO_110002; clear HO117; clear BK109; clear HB; have HO_8 := n0_; have HO_110001 := n1_; have HO_110002 := n2_; have HO117 := n3_; have HO121 := n4_; have HO124 := n5_; have HO127 := n6_; have HO130 := n7_; have BK109 := n8_; have HB := n9_; clear n0_ n1_ n2_ n3_ n4_ n5_ n6_ n7_ n8_ n9_; (try clear hb); (try clear hb2); (try clear hk); (try clear hi); (try clear ho0); (try clear ho1); (try clear ho2); (try clear ho3)) | ((with_reducible refine gate_dst (N := 11) rfl ?_); refine box_event ?hg (N := 11) ?hd (cs := #[.int .i64 0, .slice none 0 0, .slice none 0 0]) (t := 31) ?hr ?_; (case hd => rfl); (case hg => rfl); (case hr => first | (go_simp; done) | (go_simp; rfl)); intro gb132 hg w51 hbox hb; have n0_ := sA (Kd.R_below (sR HO_8.out) hb); have n1_ := sA (Kd.R_below (sR HO_110001.out) hb); have n2_ := sA (Kd.R_below (sR HO_110002.out) hb); have n3_ := sA (Kd.R_below (sR HO117.out) hb); have n4_ := sA (Kd.R_below (sR HO121.out) hb); have n5_ := sA (Kd.R_below (sR HO124.out) hb); have n6_ := sA (Kd.R_below (sR HO127.out) hb); have n7_ := sA (Kd.R_below (sR HO130.out) hb); have n8_ := sA (blk_below (sB BK109.out) hb); have n9_ := sA (below_step (by repeat (first | (with_reducible first | exact HB.out | apply sLA | apply sLN | apply sLD | refine sLS ?_ GE109.out) | exact HB.out)) hb); have n10_ := sA (hbox); have n11_ := sA ((by rw [hg]; exact (below_size (by repeat (first | (with_reducible first | exact HB.out | apply sLA | apply sLN | apply sLD | refine sLS ?_ GE109.out) | exact HB.out))) : w.heap.size ≤ gb132)); have n12_ := sA ((by rw [hg]; exact (below_size (by repeat (first | (with_reducible first | exact HB.out | apply sLA | apply sLN | apply sLD | refine sLS ?_ GE109.out) | exact HB.out))) : w.heap.size ≤ gb132)); have n13_ := sA ((by rw [hg]; exact Nat.ne_of_lt (blk_lt (sB BK109.out)) : gb109 ≠ gb132)); have n14_ := sA ((by rw [hg]; exact Nat.ne_of_gt (blk_lt (sB BK109.out)) : gb132 ≠ gb109)); clear HO_8; clear HO_110001; clear HO_110002; clear HO117; clear HO121; clear HO124; clear HO127; clear HO130; clear BK109; clear HB; have HO_8 := n0_; have HO_110001 := n1_; have HO_110002 := n2_; have HO117 := n3_; have HO121 := n4_; have HO124 := n5_; have HO127 := n6_; have HO130 := n7_; have BK109 := n8_; have HB := n9_; have BK132 := n10_; have GW132 := n11_; have GE132 := n12_; have NB109_132 := n13_; have NB132_109 := n14_; clear n0_ n1_ n2_ n3_ n4_ n5_ n6_ n7_ n8_ n9_ n10_ n11_ n12_ n13_ n14_; clear hb hbox hg; have hnb52 := NB132_109.out; have hnc52 := NB109_132.out; have hcz53_0 : w51.cell? ⟨gb132, 0, none⟩ = some (.int .i64 0) := sC BK132 0 rfl; have hcz53_1 : w51.cell? ⟨gb132, 1, none⟩ = some (.slice none 0 0) := sC BK132 1 rfl; have hcz53_2 : w51.cell? ⟨gb132, 2, none⟩ = some (.slice none 0 0) := sC BK132 2 rfl; have hfz53_0 := blk_frozen BK132.out 0; have hfz53_1 := blk_frozen BK132.out 1; have hfz53_2 := blk_frozen BK132.out 2; obtain ⟨Ao54, co54, eo54⟩ := Kd.R_slice HO121.out; subst eo54; obtain ⟨Ao55, co55, eo55⟩ := Kd.R_slice HO124.out; subst eo55))
            go_ret2
            exact ⟨_, by first | rfl | (simp [errW_none, errW_some] <;> rfl) | (simp [*, errW_none, errW_some] <;> rfl), by first | exact Kd.R_nil _ _ _ _ _ | exact Kd.N_nil _ _ _ _ _ | exact Kd.V_nil _ _ _ _ _ | exact Kd.Q_nil _ _ _ _ _ | exact Kd.S_nil _ _ _ _ _, by repeat (first | (with_reducible first | exact HB.out | apply sLA | apply sLN | apply sLD | refine sLS ?_ GE109.out | refine sLS ?_ GE132.out) | exact HB.out)⟩
          ·rw [if_neg c19] at H
           exact absurd H (by simp)
         ·rw [if_neg c18] at H
          exact absurd H (by simp)
        ·rw [if_neg c17] at H
         have c17b0 : decide (x37_2 < (l1.length : Int)) = false := decide_eq_false c17
         clear c17
         have H' := sA H
         clear H
         obtain ⟨Ao56, co56, eo56⟩ := Kd.R_slice HO_8.out
         subst eo56
         go_wp2
         go_loopg [17, 69] k2 (fun kq v17 v69 w' => ∃ (x17_3 : List Int) (x69_3 : Int), v69 = .int .i64 x69_3 ∧ Aside0 (spec_PlayHeard.l2 kq x17_3 x8_2 (x8_2.length : Int) x69_3 = some (r1, r2)) ∧ Aside0 (kq ≤ k2) ∧ Aside0 (Kd.R (Kd.int .i64) 3 w' w.heap.size (fun k_ => some k_ ≠ (u110002 : Value).ownBlock) v17 x17_3) ∧ Aside0 (Kd.R Kd.bool 4 w' w.heap.size (fun _ => True) (.slice Ao56 x8_2.length co56) x8_2) ∧ Aside0 (Kd.R k59 59 w' w.heap.size (fun _ => True) u110001 x110001_2) ∧ Aside0 (Kd.R (Kd.int .i64) 3 w' w.heap.size (fun k_ => some k_ ≠ (v17 : Value).ownBlock) u110002 x110002_2) ∧ Aside0 (w'.heap[gb109]? = some (.cells #[.int .i64 x110000_2, u110001, u110002] 31 (0, 0))) ∧ Aside0 (Below w.heap.size w w'))
         case atStart => exact ⟨(([] : List Int)), (0), (by first | rfl | (simp; done) | (simp [*]; done)), H', ⟨Nat.le_refl _⟩, ⟨by first | exact Kd.R_nil _ _ _ _ _ | exact Kd.N_nil _ _ _ _ _ | exact Kd.V_nil _ _ _ _ _ | exact Kd.Q_nil _ _ _ _ _ | exact Kd.S_nil _ _ _ _ _⟩, ⟨sR HO_8.out⟩, ⟨sR HO_110001.out⟩, ⟨sR (Kd.R_mono HO_110002.out (fun _ hk => (by simp [Value.ownBlock])))⟩, ⟨sB BK109.out⟩, ⟨by repeat (first | (with_reducible first | exact HB.out | apply sLA | apply sLN | apply sLD | refine sLS ?_ GE109.out) | exact HB.out)⟩⟩
         case round =>
          clear H'
          try clear c1
          try clear p1
          try clear q1
          try clear hx1
          try clear c2
          try clear p2
          try clear c3
          try clear c4
          try clear p4
          try clear q4
          try clear hx4
          try clear hf4
          try clear c5
          try clear p6
          try clear c10
          try clear p11
          try clear q11
          try clear hx11
          try clear c12
          try clear c13
          try clear c13b0
          try clear c13b1
          try clear p13
          try clear q13
          try clear hx13
          try clear c14
          try clear c14b0
          try clear c14b1
          try clear c17
          try clear c17b0
          try clear c18
          try clear c18b0
          try clear c19
          try clear c19b0
          try clear c21
          try clear c26
          try clear c30
          try clear c36
          try clear c36b0
          try clear c37
          try clear c37b0
          try clear c38
          try clear c38b0
          try clear c39
          try clear c39b0
          try clear c40
          try clear c40b0
          try clear c41
          try clear p41
          try clear q41
          try clear hx41
          try clear hf41
          try clear c50
          try clear c52
          try clear hcz22_0
          try clear hcz22_1
          try clear hcz22_2
          try clear hcz31_0
          try clear hcz31_1
          try clear hcz31_2
          try clear hcz34_0
          try clear hcz34_1
          try clear hcz34_2
          try clear hcz44_0
          try clear hcz44_1
          try clear hcz44_2
          try clear hcz53_0
          try clear hcz53_1
          try clear hcz53_2
          try clear hcz7_0
          try clear hcz7_1
          try clear hcz7_2
          try clear hfz22_0
          try clear hfz22_1
          try clear hfz22_2
          try clear hfz31_0
          try clear hfz31_1
          try clear hfz31_2
          try clear hfz34_0
          try clear hfz34_1
          try clear hfz34_2
          try clear hfz44_0
          try clear hfz44_1
          try clear hfz44_2
          try clear hfz53_0
          try clear hfz53_1
          try clear hfz53_2
          try clear hfz7_0
          try clear hfz7_1
          try clear hfz7_2
          try clear hx114_0
          try clear hx133_0
          try clear hx41_0
          try clear p1
          try clear p11
          try clear p114
          try clear p133
          try clear p2
          try clear p41
          try clear p6
          try clear q1
          try clear q11
          try clear q114
          try clear q133
          try clear q41
          obtain ⟨x17_3, x69_3, rfl, HA, HK3, HO_17, HO_67, HO_110001, HO_110002, BK109, HB⟩ := hrel
          cases gk with
          | zero => exact absurd HA.out (by simp [spec_PlayHeard.l2])
          | succ k3 =>
           have H := HA.out
           clear HA
           simp only [spec_PlayHeard.l2] at H
           by_cases c57 : x69_3 < (x8_2.length : Int)
           ·rw [if_pos c57] at H
            have c57b0 : decide (x69_3 < (x8_2.length : Int)) = true := decide_eq_true c57
            clear c57
            by_cases c58 : 0 ≤ x69_3
            ·rw [if_pos c58] at H
             have c58b0 : decide (0 ≤ x69_3) = true := decide_eq_true c58
             clear c58
             by_cases c59 : x69_3 < (x8_2.length : Int)
             ·rw [if_pos c59] at H
              have c59b0 : decide (x69_3 < (x8_2.length : Int)) = true := decide_eq_true c59
              clear c59
              obtain ⟨bq60, hbq60⟩ : ∃ b_ : Bool, b_ = (rdOf false x8_2 x69_3) := ⟨_, rfl⟩
              replace H : (if bq60 = true then (if x17_3.length < 17592186044416 then (spec_PlayHeard.l2 k3 (x17_3 ++ [x69_3]) x8_2 (x8_2.length : Int) (wrap64 (x69_3 + 1))) else (none)) else (spec_PlayHeard.l2 k3 x17_3 x8_2 (x8_2.length : Int) (wrap64 (x69_3 + 1)))) = some (r1, r2) := by rw [← hbq60] at H; exact H
              have Nbq60 := sA hbq60
              clear hbq60
              by_cases c61 : bq60 = true
              ·subst c61
               have H1 : (if x17_3.length < 17592186044416 then (spec_PlayHeard.l2 k3 (x17_3 ++ [x69_3]) x8_2 (x8_2.length : Int) (wrap64 (x69_3 + 1))) else (none)) = some (r1, r2) := by rw [if_pos rfl] at H; exact H
               clear H
               have H := H1
               clear H1
               by_cases c62 : x17_3.length < 17592186044416
               ·rw [if_pos c62] at H
                have LMc62 := sA c62
                clear c62
                obtain ⟨y136, hy136⟩ : ∃ y_ : List Int, y_ = (x17_3 ++ [x69_3]) := ⟨_, rfl⟩
                replace H : (spec_PlayHeard.l2 k3 y136 x8_2 (x8_2.length : Int) (wrap64 (x69_3 + 1))) = some (r1, r2) := by first | (rw [hy136]; with_reducible exact H) | (have H2_ := (Option.bind_some _ _).symm.trans H; rw [hy136]; with_reducible exact H2_) | (have H2_ := (Option.bind_some _ _).symm.trans H; with_reducible exact H2_) | with_reducible exact H | (rw [hy136]; exact H) | exact H
                have Ny136 := sA hy136
                clear hy136
                have H' := sA H
                clear H
                have p135 : 0 ≤ (x69_3 : Int) := of_decide_eq_true (by first | (with_reducible assumption) | assumption)
                have q135 : x69_3 < (x8_2.length : Int) := of_decide_eq_true (by first | (with_reducible assumption) | assumption)
                obtain ⟨ad135, e135, hx135_0⟩ := Kd.at_bool (Kd.R_reads' HO_67.out).2.2 x69_3 p135 q135
                (try rw [← Nbq60.out] at hx135_0)
                cases e135
                replace p135 := eq_true p135
                replace q135 := eq_true q135
                go_wp2_with (first | ((with_reducible refine gate_builtin (b := .append) (xs := #[.tmp 75, .tmp 77]) rfl ?_); at_builtin; refine Kd.R_append (Kd.int .i64) (w0 := w) w.heap.size rfl (.tmp 75) (.tmp 77) 23 3 (.int .i64 0) 8 rfl Try.underlying23 info3 rfl (by decide) (by omega) u17 x17_3 x69_3 [.int .i64 x69_3] (fun k_ => some k_ ≠ (u110002 : Value).ownBlock) (fun _ => False) rfl rfl ?aP (fun _ hk => hk.elim) ?aF ?aO ?aB ?aS ?aL ?_; (case aP => exact rfl); (case aB => exact (by repeat (first | (with_reducible first | exact HB.out | apply sLA | apply sLN | apply sLD | refine sLS ?_ GE109.out) | exact HB.out))); (case aF => exact (fun k_ hk => Kd.fresh' (Kd.R_lt (sR HO_110002.out)) k_ hk)); (case aO => exact (sR HO_17.out)); (case aS => exact (below_size (by repeat (first | (with_reducible first | exact HB.out | apply sLA | apply sLN | apply sLD | refine sLS ?_ GE109.out) | exact HB.out)))); (case aL => have := LMc62.out; omega); intro v137 w63 ho hb hg hat; rw [← Ny136.out] at ho; have n0_ := sA (Kd.R_over' (sR HO_67.out) (Kd.R_typed (sR HO_17.out)) (by decide) hg); have n1_ := sA (Kd.R_over' (sR HO_110001.out) (Kd.R_typed (sR HO_17.out)) (by decide) hg); have n2_ := sA (Kd.R_after (ok := (fun _ => True)) (sR (Kd.R_mono HO_110002.out (fun _ hk => ⟨trivial, hk⟩))) hg hat); have n3_ := sA (blk_grown (g := gb109) (o := .cells #[.int .i64 x110000_2, u110001, u110002] 31 (0, 0)) (sB BK109.out) hg (Kd.R_ne HO_17.out BK109.out (by decide))); have n4_ := sA (hb); have n5_ := sA (ho); clear HO_67; clear HO_110001; clear HO_110002; clear BK109; clear HB; clear HO_17; have HO_67 := n0_; have HO_110001 := n1_; have HO_110002 := n2_; have BK109 := n3_; have HB := n4_; have HO138 := n5_; clear n0_ n1_ n2_ n3_ n4_ n5_; clear ho hb hg hat))
                go_roundg k3
                case measure => have := HJ3.out; have := HK2.out; have := HK3.out; omega
                case rel => exact ⟨(y136), (wrap64 (x69_3 + 1)), (by first | rfl | (simp; done) | (simp [*]; done)), H', ⟨by have := HJ3.out; have := HK2.out; have := HK3.out; omega⟩, ⟨sR HO138.out⟩, ⟨sR HO_67.out⟩, ⟨sR HO_110001.out⟩, ⟨sR (Kd.R_mono HO_110002.out (fun _ hk => hk.2))⟩, ⟨sB BK109.out⟩, ⟨by repeat (first | (with_reducible first | exact HB.out | apply sLA | apply sLN | apply sLD | refine sLS ?_ GE109.out) | exact HB.out)⟩⟩
               ·rw [if_neg c62] at H
                exact absurd H (by simp)
              ·replace c61 := Bool.eq_false_iff.mpr c61
               subst c61
               have H1 : (spec_PlayHeard.l2 k3 x17_3 x8_2 (x8_2.length : Int) (wrap64 (x69_3 + 1))) = some (r1, r2) := by rw [if_neg (show ¬ (false = true) by decide)] at H; exact H
               clear H
               have H := H1
               clear H1
               have H' := sA H
               clear H
               have p135 : 0 ≤ (x69_3 : Int) := of_decide_eq_true (by first | (with_reducible assumption) | assumption)
               have q135 : x69_3 < (x8_2.length : Int) := of_decide_eq_true (by first | (with_reducible assumption) | assumption)
               obtain ⟨ad135, e135, hx135_0⟩ := Kd.at_bool (Kd.R_reads' HO_67.out).2.2 x69_3 p135 q135
               (try rw [← Nbq60.out] at hx135_0)
               cases e135
               replace p135 := eq_true p135
               replace q135 := eq_true q135
               go_wp2
               go_roundg k3
               case measure => have := HJ3.out; have := HK2.out; have := HK3.out; omega
               case rel => exact ⟨(x17_3), (wrap64 (x69_3 + 1)), (by first | rfl | (simp; done) | (simp [*]; done)), H', ⟨by have := HJ3.out; have := HK2.out; have := HK3.out; omega⟩, ⟨sR HO_17.out⟩, ⟨sR HO_67.out⟩, ⟨sR HO_110001.out⟩, ⟨sR HO_110002.out⟩, ⟨sB BK109.out⟩, ⟨by repeat (first | (with_reducible first | exact HB.out | apply sLA | apply sLN | apply sLD | refine sLS ?_ GE109.out) | exact HB.out)⟩⟩
             ·rw [if_neg c59] at H
              exact absurd H (by simp)
            ·rw [if_neg c58] at H
             exact absurd H (by simp)
           ·rw [if_neg c57] at H
            have c57b0 : decide (x69_3 < (x8_2.length : Int)) = false := decide_eq_false c57
            clear c57
            simp only [Option.some.injEq, Prod.mk.injEq] at H
            obtain ⟨rfl, rfl⟩ := H
            go_wp2
            go_ret2
            exact ⟨_, by first | rfl | (simp [errW_none, errW_some] <;> rfl) | (simp [*, errW_none, errW_some] <;> rfl), by (with_reducible repeat (first | apply Kd.R_alloc | apply Kd.R_drewN | apply Kd.R_drew)); exact Kd.R_mono HO_17.out (fun _ hk => trivial), by repeat (first | (with_reducible first | exact HB.out | apply sLA | apply sLN | apply sLD | refine sLS ?_ GE109.out) | exact HB.out)⟩
     ·rw [if_neg c14] at H
      exact absurd H (by simp)
    ·rw [if_neg c13] at H
     exact absurd H (by simp)

end Go.Proofs.Ytligcknlmbgbiaa.P

namespace Go.Proofs.Ytligcknlmbgbiaa.P
open Go.RowKit Go.Proofs.YtligcknlmbgbiaaW.PrintWords Go.Proofs.YtligcknlmbgbiaaW.PrintLast Go.Proofs.YtligcknlmbgbiaaW.PrintMore
attribute [local go_sem] max2_int min2_int max_two min_two max_three min_three max_four min_four
set_option linter.unusedVariables false
set_option linter.unusedSimpArgs false

/-! ### laws_toIntS: function 27 -/
def laws_toIntS.l0 : Nat → List Int → List Int → Int → Option (List Int)
  | 0, _, _, _ => none
  | k + 1, x0, x3, x4 => if x4 < (x0.length : Int) then (if 0 ≤ x4 then (if x4 < (x3.length : Int) then (laws_toIntS.l0 k x0 (x3.set (x4 : Int).toNat (rd x0 x4)) (wrap64 (x4 + 1))) else (none)) else (none)) else (some x3)
def laws_toIntS.f (k : Nat) (l0 : List Int) : Option (List Int) := if 0 ≤ (l0.length : Int) then (if ((l0.length : Int) : Int).toNat ≤ 35184372088832 then (laws_toIntS.l0 k l0 (List.replicate ((l0.length : Int) : Int).toNat 0) 0) else (none)) else (none)
set_option maxHeartbeats 8000000 in
set_option maxRecDepth 100000 in
theorem laws_toIntS.calls (k : Nat) (A0 : Option Addr) (c0 : Nat) (l0 : List Int) (r : List Int) (w : World) (hr0 : Kd.C (Kd.int .i64) w A0 l0.length l0) (hc0 : l0.length ≤ c0) (h : laws_toIntS.f k l0 = some r) :
  Calls Try.prog 27 #[.slice A0 l0.length c0] w fun e w' => ∃ v0_ : Value, e = .returned (v0_) ∧ Kd.R (Kd.int .i64) 3 w' w.heap.size (fun _ => True) v0_ r ∧ Below w.heap.size w w' := by
 have HR0 := sA hr0
 have HC0 := sA hc0
 clear hr0 hc0
 have HB := sA (Below.refl w.heap.size w)
 have H : (if 0 ≤ (l0.length : Int) then (if ((l0.length : Int) : Int).toNat ≤ 35184372088832 then (laws_toIntS.l0 k l0 (List.replicate ((l0.length : Int) : Int).toNat 0) 0) else (none)) else (none)) = some r := h
 clear h
 by_cases c2 : 0 ≤ (l0.length : Int)
 ·rw [if_pos c2] at H
  have c2b0 := eq_true c2
  have c2b1 : decide (0 ≤ (l0.length : Int)) = true := decide_eq_true c2
  clear c2
  by_cases c3 : ((l0.length : Int) : Int).toNat ≤ 35184372088832
  ·rw [if_pos c3] at H
   have c3b0 := eq_true c3
   have c3b1 : decide (((l0.length : Int) : Int).toNat ≤ 35184372088832) = true := decide_eq_true c3
   clear c3
   obtain ⟨y101, hy101⟩ : ∃ y_ : List Int, y_ = (List.replicate ((l0.length : Int) : Int).toNat 0) := ⟨_, rfl⟩
   replace H : (laws_toIntS.l0 k l0 y101 0) = some r := by first | (rw [hy101]; with_reducible exact H) | (have H2_ := (Option.bind_some _ _).symm.trans H; rw [hy101]; with_reducible exact H2_) | (have H2_ := (Option.bind_some _ _).symm.trans H; with_reducible exact H2_) | with_reducible exact H | (rw [hy101]; exact H) | exact H
   have Ny101 := sA hy101
   clear hy101
   have H' := sA H
   clear H
   go_enter Try.func27, Try.ntmps27
   go_wp2_with (first | ((with_reducible refine gate_dst (N := 7) rfl ?_); refine Kd.R_make (Kd.int .i64) _ 3 rfl (N := 7) rfl 23 _ _ rfl (l0.length : Int) rfl rfl Try.underlying23 (.int .i64 0) 8 info3 rfl (by decide) (by omega) 0 (ok := fun _ => True) (okp := fun _ => True) rfl (fun _ hk => hk) trivial (of_decide_eq_true (by first | (with_reducible assumption) | assumption)) (Nat.le_trans (Nat.mul_le_mul_right _ (of_decide_eq_true (by first | (with_reducible assumption) | assumption) : (l0.length : Int).toNat ≤ 35184372088832)) (by omega)) (Below.refl _ _) (Nat.le_refl _) ?_; intro v102 w4 ho5 hb hg_ hnew_; clear hg_ hnew_; (first | rw [← Ny101.out] at ho5 | (simp only [Int.reduceToNat] at ho5; rw [← Ny101.out] at ho5)); have n0_ := sA (Kd.R_lower ho5 (below_size (by repeat (first | (with_reducible first | exact HB.out | apply sLA | apply sLN | apply sLD) | exact HB.out)))); have n1_ := sA (below_step (by repeat (first | (with_reducible first | exact HB.out | apply sLA | apply sLN | apply sLD) | exact HB.out)) hb); clear HB; have HO103 := n0_; have HB := n1_; clear n0_ n1_; clear hb ho5))
   go_loopg [4] k (fun kq v4 w' => ∃ (x3_1 : List Int) (x4_1 : Int), v4 = .int .i64 x4_1 ∧ Aside0 (laws_toIntS.l0 kq l0 x3_1 x4_1 = some r) ∧ Aside0 (kq ≤ k) ∧ Aside0 (Kd.R (Kd.int .i64) 3 w' w.heap.size (fun _ => True) v102 x3_1) ∧ Aside0 (Below w.heap.size w w'))
   case atStart => exact ⟨(y101), (0), (by first | rfl | (simp; done) | (simp [*]; done)), H', ⟨Nat.le_refl _⟩, ⟨sR HO103.out⟩, ⟨by repeat (first | (with_reducible first | exact HB.out | apply sLA | apply sLN | apply sLD) | exact HB.out)⟩⟩
   case round =>
    clear H'
    try clear c2
    try clear c2b0
    try clear c2b1
    try clear p2
    try clear c3
    try clear c3b0
    try clear c3b1
    obtain ⟨x3_1, x4_1, rfl, HA, HK1, HO_3, HB⟩ := hrel
    cases gk with
    | zero => exact absurd HA.out (by simp [laws_toIntS.l0])
    | succ k1 =>
     have H := HA.out
     clear HA
     simp only [laws_toIntS.l0] at H
     by_cases c6 : x4_1 < (l0.length : Int)
     ·rw [if_pos c6] at H
      have c6b0 : decide (x4_1 < (l0.length : Int)) = true := decide_eq_true c6
      clear c6
      by_cases c7 : 0 ≤ x4_1
      ·rw [if_pos c7] at H
       have c7b0 : decide (0 ≤ x4_1) = true := decide_eq_true c7
       clear c7
       by_cases c8 : x4_1 < (x3_1.length : Int)
       ·rw [if_pos c8] at H
        have c8b0 : decide (x4_1 < (x3_1.length : Int)) = true := decide_eq_true c8
        clear c8
        obtain ⟨y105, hy105⟩ : ∃ y_ : List Int, y_ = (x3_1.set (x4_1 : Int).toNat (rd l0 x4_1)) := ⟨_, rfl⟩
        replace H : (laws_toIntS.l0 k1 l0 y105 (wrap64 (x4_1 + 1))) = some r := by first | (rw [hy105]; with_reducible exact H) | (have H2_ := (Option.bind_some _ _).symm.trans H; rw [hy105]; with_reducible exact H2_) | (have H2_ := (Option.bind_some _ _).symm.trans H; with_reducible exact H2_) | with_reducible exact H | (rw [hy105]; exact H) | exact H
        have Ny105 := sA hy105
        clear hy105
        have H' := sA H
        clear H
        have p104 : 0 ≤ (x4_1 : Int) := of_decide_eq_true (by first | (with_reducible assumption) | assumption)
        have q104 : x4_1 < (l0.length : Int) := of_decide_eq_true (by first | (with_reducible assumption) | assumption)
        obtain ⟨ad104, e104, hx104_0⟩ := Kd.at_int HR0.out x4_1 p104 q104
        cases e104
        replace hx104_0 := (HB.out.cell (World.block_lt_of_cell? w _ hx104_0)).trans hx104_0
        replace p104 := eq_true p104
        replace q104 := eq_true q104
        have p9 : 0 ≤ (x4_1 : Int) := of_decide_eq_true (by first | (with_reducible assumption) | assumption)
        have q9 : (x4_1 : Int) < ((x3_1.length : Int) : Int) := of_decide_eq_true (by first | (with_reducible assumption) | assumption)
        obtain ⟨go9, co9, eo9, gb9, gl9, cl9, HG9⟩ := Kd.R_form HO_3.out (by omega)
        (first | cases eo9 | (injection eo9 with ea_ en_ ec_; (first | subst ea_ | (injection ea_ with ea_; subst ea_)); subst ec_; clear en_))
        have GB9 := sA gb9
        have GG9 := sA HG9
        clear gb9 gl9 HG9
        obtain ⟨hx9_0, hf9_0⟩ := Kd.R_celln 0 HO_3.out (x4_1 : Int) p9 q9
        replace p9 := eq_true p9
        replace q9 := eq_true q9
        have HP10 := Kd.R_putg HO_3.out (x4_1 : Int) (rd l0 x4_1)
        go_wp2_with (first | ((with_reducible refine gate_store (t := 3) (p := 20) rfl ?_); refine store_event (t := 3) (p := 20) (v := ?vo_w11) (w1 := (wr.setCell ⟨go9, (x4_1 : Int).toNat, none⟩ (.int .i64 (rd l0 x4_1)))) ?hg ?ho ?hn ?hr ?_; (case ho => rfl); (case hg => rfl); (case hn => rfl); (case hr => first | (go_simp; done) | (go_simp; rfl)); intro w11 hw; have hg : wr.grownBy w11 (some go9) := (by rw [hw]; exact HP10.2); have hp_ : Kd.R (Kd.int .i64) 3 w11 w.heap.size (fun _ => True) (.slice (some ⟨go9, 0, none⟩) x3_1.length co9) y105 := (by rw [hw, Ny105.out]; exact HP10.1); clear HP10; have n0_ := sA (hp_); have n1_ := sA ((by rw [hw]; exact below_set (HB.out) GB9.out : Below w.heap.size w w11)); clear HO_3; clear HB; have HO_3 := n0_; have HB := n1_; clear n0_ n1_; clear hg hw hp_))
        go_roundg k1
        case measure => have := HK1.out; omega
        case rel => exact ⟨(y105), (wrap64 (x4_1 + 1)), (by first | rfl | (simp; done) | (simp [*]; done)), H', ⟨by have := HK1.out; omega⟩, ⟨sR HO_3.out⟩, ⟨by repeat (first | (with_reducible first | exact HB.out | apply sLA | apply sLN | apply sLD) | exact HB.out)⟩⟩
       ·rw [if_neg c8] at H
        exact absurd H (by simp)
      ·rw [if_neg c7] at H
       exact absurd H (by simp)
     ·rw [if_neg c6] at H
      have c6b0 : decide (x4_1 < (l0.length : Int)) = false := decide_eq_false c6
      clear c6
      obtain rfl := Option.some.inj H
      go_wp2
      go_ret
      exact ⟨_, by first | rfl | (simp [errW_none, errW_some] <;> rfl) | (simp [*, errW_none, errW_some] <;> rfl), by (with_reducible repeat (first | apply Kd.R_alloc | apply Kd.R_drewN | apply Kd.R_drew)); exact HO_3.out, by repeat (first | (with_reducible first | exact HB.out | apply sLA | apply sLN | apply sLD) | exact HB.out)⟩
  ·rw [if_neg c3] at H
   exact absurd H (by simp)
 ·rw [if_neg c2] at H
  exact absurd H (by simp)

end Go.Proofs.Ytligcknlmbgbiaa.P

namespace Go.Proofs.Ytligcknlmbgbiaa.P
open Go.RowKit Go.Proofs.YtligcknlmbgbiaaW.PrintWords Go.Proofs.YtligcknlmbgbiaaW.PrintLast Go.Proofs.YtligcknlmbgbiaaW.PrintMore
attribute [local go_sem] max2_int min2_int max_two min_two max_three min_three max_four min_four
set_option linter.unusedVariables false
set_option linter.unusedSimpArgs false

/-! ### impl_isSpan: function 80 -/
def impl_isSpan.f (a0_0 : Int) (a0_1 : Int) : Option (Bool) := if a0_0 ≥ 0 then (if a0_0 < a0_1 then (some (decide (a0_1 ≤ 1000000))) else (some false)) else (some false)
set_option maxHeartbeats 8000000 in
set_option maxRecDepth 100000 in
theorem impl_isSpan.calls (a0_0 : Int) (a0_1 : Int) (r : Bool) (w : World) (h : impl_isSpan.f a0_0 a0_1 = some r) :
  Calls Try.prog 80 #[.agg #[.int .i64 a0_0, .int .i64 a0_1]] w fun e w' => e = .returned (.bool r) ∧ Below w.heap.size w w' := by
 have hu59 := Try.underlying59
 have HB := sA (Below.refl w.heap.size w)
 have H : (if a0_0 ≥ 0 then (if a0_0 < a0_1 then (some (decide (a0_1 ≤ 1000000))) else (some false)) else (some false)) = some r := h
 clear h
 by_cases c2 : a0_0 ≥ 0
 ·rw [if_pos c2] at H
  have c2b0 : decide (0 ≤ a0_0) = true := decide_eq_true c2
  clear c2
  by_cases c3 : a0_0 < a0_1
  ·rw [if_pos c3] at H
   have c3b0 : decide (a0_0 < a0_1) = true := decide_eq_true c3
   clear c3
   obtain rfl := Option.some.inj H
   go_enter Try.func80, Try.ntmps80
   go_wp2_with (first | ((with_reducible refine gate_dst (N := 1) rfl ?_); refine box_event ?hg (N := 1) ?hd (cs := #[.int .i64 a0_0, .int .i64 a0_1]) (t := 59) ?hr ?_; (case hd => rfl); (case hg => rfl); (case hr => first | (go_simp; done) | (go_simp; rfl)); intro gb101 hg w4 hbox hb; have n0_ := sA (below_step (by repeat (first | (with_reducible first | exact HB.out | apply sLA | apply sLN | apply sLD) | exact HB.out)) hb); have n1_ := sA (hbox); have n2_ := sA ((by rw [hg]; exact (below_size (by repeat (first | (with_reducible first | exact HB.out | apply sLA | apply sLN | apply sLD) | exact HB.out))) : w.heap.size ≤ gb101)); have n3_ := sA ((by rw [hg]; exact (below_size (by repeat (first | (with_reducible first | exact HB.out | apply sLA | apply sLN | apply sLD) | exact HB.out))) : w.heap.size ≤ gb101)); clear HB; have HB := n0_; have BK101 := n1_; have GW101 := n2_; have GE101 := n3_; clear n0_ n1_ n2_ n3_; clear hb hbox hg; have hcz5_0 : w4.cell? ⟨gb101, 0, none⟩ = some (.int .i64 a0_0) := sC BK101 0 rfl; have hcz5_1 : w4.cell? ⟨gb101, 1, none⟩ = some (.int .i64 a0_1) := sC BK101 1 rfl; have hfz5_0 := blk_frozen BK101.out 0; have hfz5_1 := blk_frozen BK101.out 1))
   go_ret
   exact ⟨by first | rfl | (simp [errW_none, errW_some] <;> rfl) | (simp [*, errW_none, errW_some] <;> rfl), by repeat (first | (with_reducible first | exact HB.out | apply sLA | apply sLN | apply sLD | refine sLS ?_ GE101.out) | exact HB.out)⟩
  ·rw [if_neg c3] at H
   have c3b0 : decide (a0_0 < a0_1) = false := decide_eq_false c3
   clear c3
   obtain rfl := Option.some.inj H
   go_enter Try.func80, Try.ntmps80
   go_wp2_with (first | ((with_reducible refine gate_dst (N := 1) rfl ?_); refine box_event ?hg (N := 1) ?hd (cs := #[.int .i64 a0_0, .int .i64 a0_1]) (t := 59) ?hr ?_; (case hd => rfl); (case hg => rfl); (case hr => first | (go_simp; done) | (go_simp; rfl)); intro gb101 hg w6 hbox hb; have n0_ := sA (below_step (by repeat (first | (with_reducible first | exact HB.out | apply sLA | apply sLN | apply sLD) | exact HB.out)) hb); have n1_ := sA (hbox); have n2_ := sA ((by rw [hg]; exact (below_size (by repeat (first | (with_reducible first | exact HB.out | apply sLA | apply sLN | apply sLD) | exact HB.out))) : w.heap.size ≤ gb101)); have n3_ := sA ((by rw [hg]; exact (below_size (by repeat (first | (with_reducible first | exact HB.out | apply sLA | apply sLN | apply sLD) | exact HB.out))) : w.heap.size ≤ gb101)); clear HB; have HB := n0_; have BK101 := n1_; have GW101 := n2_; have GE101 := n3_; clear n0_ n1_ n2_ n3_; clear hb hbox hg; have hcz7_0 : w6.cell? ⟨gb101, 0, none⟩ = some (.int .i64 a0_0) := sC BK101 0 rfl; have hcz7_1 : w6.cell? ⟨gb101, 1, none⟩ = some (.int .i64 a0_1) := sC BK101 1 rfl; have hfz7_0 := blk_frozen BK101.out 0; have hfz7_1 := blk_frozen BK101.out 1))
   go_ret
   exact ⟨by first | rfl | (simp [errW_none, errW_some] <;> rfl) | (simp [*, errW_none, errW_some] <;> rfl), by repeat (first | (with_reducible first | exact HB.out | apply sLA | apply sLN | apply sLD | refine sLS ?_ GE101.out) | exact HB.out)⟩
 ·rw [if_neg c2] at H
  have c2b0 : decide (0 ≤ a0_0) = false := decide_eq_false c2
  clear c2
  obtain rfl := Option.some.inj H
  go_enter Try.func80, Try.ntmps80
  go_wp2_with (first | ((with_reducible refine gate_dst (N := 1) rfl ?_); refine box_event ?hg (N := 1) ?hd (cs := #[.int .i64 a0_0, .int .i64 a0_1]) (t := 59) ?hr ?_; (case hd => rfl); (case hg => rfl); (case hr => first | (go_simp; done) | (go_simp; rfl)); intro gb101 hg w8 hbox hb; have n0_ := sA (below_step (by repeat (first | (with_reducible first | exact HB.out | apply sLA | apply sLN | apply sLD) | exact HB.out)) hb); have n1_ := sA (hbox); have n2_ := sA ((by rw [hg]; exact (below_size (by repeat (first | (with_reducible first | exact HB.out | apply sLA | apply sLN | apply sLD) | exact HB.out))) : w.heap.size ≤ gb101)); have n3_ := sA ((by rw [hg]; exact (below_size (by repeat (first | (with_reducible first | exact HB.out | apply sLA | apply sLN | apply sLD) | exact HB.out))) : w.heap.size ≤ gb101)); clear HB; have HB := n0_; have BK101 := n1_; have GW101 := n2_; have GE101 := n3_; clear n0_ n1_ n2_ n3_; clear hb hbox hg; have hcz9_0 : w8.cell? ⟨gb101, 0, none⟩ = some (.int .i64 a0_0) := sC BK101 0 rfl; have hcz9_1 : w8.cell? ⟨gb101, 1, none⟩ = some (.int .i64 a0_1) := sC BK101 1 rfl; have hfz9_0 := blk_frozen BK101.out 0; have hfz9_1 := blk_frozen BK101.out 1))
  go_ret
  exact ⟨by first | rfl | (simp [errW_none, errW_some] <;> rfl) | (simp [*, errW_none, errW_some] <;> rfl), by repeat (first | (with_reducible first | exact HB.out | apply sLA | apply sLN | apply sLD | refine sLS ?_ GE101.out) | exact HB.out)⟩

end Go.Proofs.Ytligcknlmbgbiaa.P
