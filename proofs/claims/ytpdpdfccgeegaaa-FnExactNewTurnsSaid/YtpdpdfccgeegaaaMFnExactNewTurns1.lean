/- FnExactNewTurns: for every input that can be read, the law returns true and its arguments read as before. Conditions: none beyond the row's own. (Part 2 of 5: contracts made by pw.py with the kit's print, contracts by hand, plain laws, the row.) -/
import Derived.Test.YtpdpdfccgeegaaaMFnExactNewTurns0
import Derived.Shelf.Abstract
import Derived.WalkSpells

namespace Go.Proofs.Ytpdpdfccgeegaaa.P
open Go.RowKit Go.Proofs.YtpdpdfccgeegaaaW.PrintWords Go.Proofs.YtpdpdfccgeegaaaW.PrintLast Go.Proofs.YtpdpdfccgeegaaaW.PrintMore
attribute [local go_sem] max2_int min2_int max_two min_two max_three min_three max_four min_four
set_option linter.unusedVariables false
set_option linter.unusedSimpArgs false

/-! ### spec_NewTurns: function 5 -/
def spec_NewTurns.f (k : Nat) (l0 : List Int) : Option (List Int × (List (List Int)) × List Int × List Int × Int × Bool) := (spec_l1In.f (l0.length : Int) 1 4).bind fun t102 => (if t102 = true then ((spec_l1All.f k l0 20 100).bind fun t103 => (if t103 = true then ((some (([] : List Int) : List Int)).bind fun y104 => (if y104.length + l0.length < 17592186044416 then (if 0 ≤ (l0.length : Int) then (if ((l0.length : Int) : Int).toNat ≤ 11728124029610 then (if ((l0.length : Int) : Int).toNat ≤ 35184372088832 then (some ((y104 ++ l0), (List.replicate ((l0.length : Int) : Int).toNat []), (List.replicate ((l0.length : Int) : Int).toNat 0), (List.replicate ((l0.length : Int) : Int).toNat 0), 0, true)) else (none)) else (none)) else (none)) else (none))) else (some (([] : List Int), ([] : List (List Int)), ([] : List Int), ([] : List Int), 0, false)))) else (some (([] : List Int), ([] : List (List Int)), ([] : List Int), ([] : List Int), 0, false)))
theorem spec_NewTurns.mono : ∀ a0 k, LeO (spec_NewTurns.f k a0) (spec_NewTurns.f (k + 1) a0) := by
  intro a0 k
  unfold spec_NewTurns.f
  repeat' first
      | (with_reducible exact spec_l1All.mono _ _ _ _)
      | (with_reducible exact LeO.refl _)
      | (with_reducible exact LeO.none _)
      | (with_reducible refine LeO.ite ?_ ?_)
      | (with_reducible refine LeO.bind ?_ (fun _ => ?_))
      | exact spec_l1All.mono _ _ _ _
      | exact LeO.none _
      | refine LeO.ite ?_ ?_
      | refine LeO.bind ?_ (fun _ => ?_)
def spec_NewTurns.T4 : Bool × List (List Nat × List Nat) := (true, [([], []), ([], []), ([0, 1], [0, 1]), ([], []), ([3, 3], [3]), ([], []), ([5, 5], [5]), ([], []), ([7, 7], [7]), ([2, 4, 6, 8], [2, 4, 6, 8]), ([9, 2, 0, 1, 2, 3, 4, 5, 6, 7, 8, 9], [9]), ([10, 0, 1, 2, 3, 4, 5, 6, 7, 8, 9, 10], [])])
def spec_NewTurns.B4 : List Nat := [0, 0, 3, 0, 8, 0, 32, 0, 128, 511, 1023, 2047]
theorem spec_NewTurns.tab4 : rtab .any (opsOf Try.f5 4) = spec_NewTurns.T4 := by kernel_rfl
theorem spec_NewTurns.bits4 : waitsOk spec_NewTurns.T4.2 spec_NewTurns.B4 = true := by kernel_rfl
set_option maxHeartbeats 8000000 in
set_option maxRecDepth 100000 in
theorem spec_NewTurns.calls (k : Nat) (A0 : Option Addr) (c0 : Nat) (l0 : List Int) (r1 : List Int) (r2 : List (List Int)) (r3 : List Int) (r4 : List Int) (r5 : Int) (r6 : Bool) (w : World) (hr0 : Kd.C (Kd.int .i64) w A0 l0.length l0) (hc0 : l0.length ≤ c0) (h : spec_NewTurns.f k l0 = some (r1, r2, r3, r4, r5, r6)) :
  Calls Try.prog 5 #[.slice A0 l0.length c0] w fun e w' => ∃ v0_ v1_ v2_ v3_ : Value, e = .returned (.tuple #[.agg #[v0_, v1_, v2_, v3_, .int .i64 r5], .bool r6]) ∧ Kd.R (Kd.int .i64) 3 w' w.heap.size (fun k_ => some k_ ≠ (v2_ : Value).ownBlock ∧ some k_ ≠ (v3_ : Value).ownBlock) v0_ r1 ∧ Kd.S (Kd.slice 3 (Kd.int .i64)) 22 w' w.heap.size (fun k_ => some k_ ≠ (v0_ : Value).ownBlock ∧ some k_ ≠ (v2_ : Value).ownBlock ∧ some k_ ≠ (v3_ : Value).ownBlock) v1_ r2 ∧ Kd.R (Kd.int .i64) 3 w' w.heap.size (fun k_ => some k_ ≠ (v0_ : Value).ownBlock ∧ some k_ ≠ (v3_ : Value).ownBlock) v2_ r3 ∧ Kd.R (Kd.int .i64) 3 w' w.heap.size (fun k_ => some k_ ≠ (v0_ : Value).ownBlock ∧ some k_ ≠ (v2_ : Value).ownBlock) v3_ r4 ∧ Below w.heap.size w w' := by
 have hu25 := Try.underlying25
 have HR0 := sA hr0
 have HC0 := sA hc0
 clear hr0 hc0
 have HB := sA (Below.refl w.heap.size w)
 have H : ((spec_l1In.f (l0.length : Int) 1 4).bind fun t102 => (if t102 = true then ((spec_l1All.f k l0 20 100).bind fun t103 => (if t103 = true then ((some (([] : List Int) : List Int)).bind fun y104 => (if y104.length + l0.length < 17592186044416 then (if 0 ≤ (l0.length : Int) then (if ((l0.length : Int) : Int).toNat ≤ 11728124029610 then (if ((l0.length : Int) : Int).toNat ≤ 35184372088832 then (some ((y104 ++ l0), (List.replicate ((l0.length : Int) : Int).toNat []), (List.replicate ((l0.length : Int) : Int).toNat 0), (List.replicate ((l0.length : Int) : Int).toNat 0), 0, true)) else (none)) else (none)) else (none)) else (none))) else (some (([] : List Int), ([] : List (List Int)), ([] : List Int), ([] : List Int), 0, false)))) else (some (([] : List Int), ([] : List (List Int)), ([] : List Int), ([] : List Int), 0, false)))) = some (r1, r2, r3, r4, r5, r6) := h
 clear h
 replace H := Option.bind_eq_some_iff.mp H
 obtain ⟨t102, A20, H⟩ := H
 replace H : (if t102 = true then ((spec_l1All.f k l0 20 100).bind fun t103 => (if t103 = true then ((some (([] : List Int) : List Int)).bind fun y104 => (if y104.length + l0.length < 17592186044416 then (if 0 ≤ (l0.length : Int) then (if ((l0.length : Int) : Int).toNat ≤ 11728124029610 then (if ((l0.length : Int) : Int).toNat ≤ 35184372088832 then (some ((y104 ++ l0), (List.replicate ((l0.length : Int) : Int).toNat []), (List.replicate ((l0.length : Int) : Int).toNat 0), (List.replicate ((l0.length : Int) : Int).toNat 0), 0, true)) else (none)) else (none)) else (none)) else (none))) else (some (([] : List Int), ([] : List (List Int)), ([] : List Int), ([] : List Int), 0, false)))) else (some (([] : List Int), ([] : List (List Int)), ([] : List Int), ([] : List Int), 0, false))) = some (r1, r2, r3, r4, r5, r6) := H
 have A2 := sA A20
 clear A20
 by_cases c3 : t102 = true
 ·subst c3
  have H1 : ((spec_l1All.f k l0 20 100).bind fun t103 => (if t103 = true then ((some (([] : List Int) : List Int)).bind fun y104 => (if y104.length + l0.length < 17592186044416 then (if 0 ≤ (l0.length : Int) then (if ((l0.length : Int) : Int).toNat ≤ 11728124029610 then (if ((l0.length : Int) : Int).toNat ≤ 35184372088832 then (some ((y104 ++ l0), (List.replicate ((l0.length : Int) : Int).toNat []), (List.replicate ((l0.length : Int) : Int).toNat 0), (List.replicate ((l0.length : Int) : Int).toNat 0), 0, true)) else (none)) else (none)) else (none)) else (none))) else (some (([] : List Int), ([] : List (List Int)), ([] : List Int), ([] : List Int), 0, false)))) = some (r1, r2, r3, r4, r5, r6) := by rw [if_pos rfl] at H; exact H
  clear H
  have H := H1
  clear H1
  replace H := Option.bind_eq_some_iff.mp H
  obtain ⟨t103, A40, H⟩ := H
  replace H : (if t103 = true then ((some (([] : List Int) : List Int)).bind fun y104 => (if y104.length + l0.length < 17592186044416 then (if 0 ≤ (l0.length : Int) then (if ((l0.length : Int) : Int).toNat ≤ 11728124029610 then (if ((l0.length : Int) : Int).toNat ≤ 35184372088832 then (some ((y104 ++ l0), (List.replicate ((l0.length : Int) : Int).toNat []), (List.replicate ((l0.length : Int) : Int).toNat 0), (List.replicate ((l0.length : Int) : Int).toNat 0), 0, true)) else (none)) else (none)) else (none)) else (none))) else (some (([] : List Int), ([] : List (List Int)), ([] : List Int), ([] : List Int), 0, false))) = some (r1, r2, r3, r4, r5, r6) := H
  have A4 := sA A40
  clear A40
  by_cases c5 : t103 = true
  ·subst c5
   have H1 : ((some (([] : List Int) : List Int)).bind fun y104 => (if y104.length + l0.length < 17592186044416 then (if 0 ≤ (l0.length : Int) then (if ((l0.length : Int) : Int).toNat ≤ 11728124029610 then (if ((l0.length : Int) : Int).toNat ≤ 35184372088832 then (some ((y104 ++ l0), (List.replicate ((l0.length : Int) : Int).toNat []), (List.replicate ((l0.length : Int) : Int).toNat 0), (List.replicate ((l0.length : Int) : Int).toNat 0), 0, true)) else (none)) else (none)) else (none)) else (none))) = some (r1, r2, r3, r4, r5, r6) := by rw [if_pos rfl] at H; exact H
   clear H
   have H := H1
   clear H1
   obtain ⟨y104, hy104⟩ : ∃ y_ : List Int, y_ = (([] : List Int)) := ⟨_, rfl⟩
   replace H : (if y104.length + l0.length < 17592186044416 then (if 0 ≤ (l0.length : Int) then (if ((l0.length : Int) : Int).toNat ≤ 11728124029610 then (if ((l0.length : Int) : Int).toNat ≤ 35184372088832 then (some ((y104 ++ l0), (List.replicate ((l0.length : Int) : Int).toNat []), (List.replicate ((l0.length : Int) : Int).toNat 0), (List.replicate ((l0.length : Int) : Int).toNat 0), 0, true)) else (none)) else (none)) else (none)) else (none)) = some (r1, r2, r3, r4, r5, r6) := by first | (rw [hy104]; with_reducible exact H) | (have H2_ := (Option.bind_some _ _).symm.trans H; rw [hy104]; with_reducible exact H2_) | (have H2_ := (Option.bind_some _ _).symm.trans H; with_reducible exact H2_) | with_reducible exact H | (rw [hy104]; exact H) | exact H
   have Ny104 := sA hy104
   clear hy104
   by_cases c6 : y104.length + l0.length < 17592186044416
   ·rw [if_pos c6] at H
    have LMc6 := sA c6
    clear c6
    obtain ⟨y107, hy107⟩ : ∃ y_ : List Int, y_ = (y104 ++ l0) := ⟨_, rfl⟩
    replace H : (if 0 ≤ (l0.length : Int) then (if ((l0.length : Int) : Int).toNat ≤ 11728124029610 then (if ((l0.length : Int) : Int).toNat ≤ 35184372088832 then (some (y107, (List.replicate ((l0.length : Int) : Int).toNat []), (List.replicate ((l0.length : Int) : Int).toNat 0), (List.replicate ((l0.length : Int) : Int).toNat 0), 0, true)) else (none)) else (none)) else (none)) = some (r1, r2, r3, r4, r5, r6) := by first | (rw [hy107]; with_reducible exact H) | (have H2_ := (Option.bind_some _ _).symm.trans H; rw [hy107]; with_reducible exact H2_) | (have H2_ := (Option.bind_some _ _).symm.trans H; with_reducible exact H2_) | with_reducible exact H | (rw [hy107]; exact H) | exact H
    have Ny107 := sA hy107
    clear hy107
    by_cases c7 : 0 ≤ (l0.length : Int)
    ·rw [if_pos c7] at H
     have c7b0 := eq_true c7
     have c7b1 : decide (0 ≤ (l0.length : Int)) = true := decide_eq_true c7
     clear c7
     by_cases c8 : ((l0.length : Int) : Int).toNat ≤ 11728124029610
     ·rw [if_pos c8] at H
      have c8b0 := eq_true c8
      have c8b1 : decide (((l0.length : Int) : Int).toNat ≤ 11728124029610) = true := decide_eq_true c8
      clear c8
      obtain ⟨y110, hy110⟩ : ∃ y_ : List (List Int), y_ = (List.replicate ((l0.length : Int) : Int).toNat []) := ⟨_, rfl⟩
      replace H : (if ((l0.length : Int) : Int).toNat ≤ 35184372088832 then (some (y107, y110, (List.replicate ((l0.length : Int) : Int).toNat 0), (List.replicate ((l0.length : Int) : Int).toNat 0), 0, true)) else (none)) = some (r1, r2, r3, r4, r5, r6) := by first | (rw [hy110]; with_reducible exact H) | (have H2_ := (Option.bind_some _ _).symm.trans H; rw [hy110]; with_reducible exact H2_) | (have H2_ := (Option.bind_some _ _).symm.trans H; with_reducible exact H2_) | with_reducible exact H | (rw [hy110]; exact H) | exact H
      have Ny110 := sA hy110
      clear hy110
      by_cases c9 : ((l0.length : Int) : Int).toNat ≤ 35184372088832
      ·rw [if_pos c9] at H
       have c9b0 := eq_true c9
       have c9b1 : decide (((l0.length : Int) : Int).toNat ≤ 35184372088832) = true := decide_eq_true c9
       clear c9
       obtain ⟨y113, hy113⟩ : ∃ y_ : List Int, y_ = (List.replicate ((l0.length : Int) : Int).toNat 0) := ⟨_, rfl⟩
       replace H : (some (y107, y110, y113, (List.replicate ((l0.length : Int) : Int).toNat 0), 0, true)) = some (r1, r2, r3, r4, r5, r6) := by first | (rw [hy113]; with_reducible exact H) | (have H2_ := (Option.bind_some _ _).symm.trans H; rw [hy113]; with_reducible exact H2_) | (have H2_ := (Option.bind_some _ _).symm.trans H; with_reducible exact H2_) | with_reducible exact H | (rw [hy113]; exact H) | exact H
       have Ny113 := sA hy113
       clear hy113
       obtain ⟨y116, hy116⟩ : ∃ y_ : List Int, y_ = (List.replicate ((l0.length : Int) : Int).toNat 0) := ⟨_, rfl⟩
       replace H : (some (y107, y110, y113, y116, 0, true)) = some (r1, r2, r3, r4, r5, r6) := by first | (rw [hy116]; with_reducible exact H) | (have H2_ := (Option.bind_some _ _).symm.trans H; rw [hy116]; with_reducible exact H2_) | (have H2_ := (Option.bind_some _ _).symm.trans H; with_reducible exact H2_) | with_reducible exact H | (rw [hy116]; exact H) | exact H
       have Ny116 := sA hy116
       clear hy116
       simp only [Option.some.injEq, Prod.mk.injEq] at H
       obtain ⟨rfl, rfl, rfl, rfl, rfl, rfl⟩ := H
       go_enter Try.func5, Try.ntmps5
       try go_wp2_with (first | ((with_reducible refine gate_dst (N := 2) rfl ?_); refine box_event ?hg (N := 2) ?hd (cs := #[.slice none 0 0, .slice none 0 0, .slice none 0 0, .slice none 0 0, .int .i64 0]) (t := 25) ?hr ?_; (case hd => rfl); (case hg => rfl); (case hr => first | (go_simp; done) | (go_simp; rfl)); intro gb101 hg w10 hbox hb; have n0_ := sA (below_step (by repeat (first | (with_reducible first | exact HB.out | apply sLA | apply sLN | apply sLD) | exact HB.out)) hb); have n1_ := sA (hbox); have n2_ := sA ((by rw [hg]; exact (below_size (by repeat (first | (with_reducible first | exact HB.out | apply sLA | apply sLN | apply sLD) | exact HB.out))) : w.heap.size ≤ gb101)); have n3_ := sA ((by rw [hg]; exact (below_size (by repeat (first | (with_reducible first | exact HB.out | apply sLA | apply sLN | apply sLD) | exact HB.out))) : w.heap.size ≤ gb101)); clear HB; have HB := n0_; have BK101 := n1_; have GW101 := n2_; have GE101 := n3_; clear n0_ n1_ n2_ n3_; clear hb hbox hg) | ((with_reducible refine gate_callee (f := 17) rfl ?_); refine goesL_ (some 8) rfl rfl Try.func17 (by kernel_rfl) rfl #[.int .i64 (l0.length : Int), .int .i64 1, .int .i64 4] rfl (by (try simp only [List.map_toArray, List.map_cons, List.map_nil]); first | done | rfl | (simp only [List.length_drop, List.length_take]; rfl)) ?_; (with_reducible refine (spec_l1In.calls (l0.length : Int) 1 4 true _ A2.out).mono ?_); rintro e w' ⟨rfl, ⟨nd, rfl⟩⟩; refine ⟨_, rfl, ?_⟩; (try (rw [drewN_self w10]; generalize hq_ : World.drewN w10 _ = w10; have n0_ : Aside0 (w10.heap[gb101]? = some (.cells #[.slice none 0 0, .slice none 0 0, .slice none 0 0, .slice none 0 0, .int .i64 0] 25 (0, 0))) := ⟨by rw [← hq_]; exact (sB BK101.out)⟩; have n1_ : Aside0 (Below w.heap.size w w10) := ⟨by rw [← hq_]; exact (by repeat (first | (with_reducible first | exact HB.out | apply sLA | apply sLN | apply sLD | refine sLS ?_ GE101.out) | exact HB.out))⟩; clear BK101 HB hq_; have BK101 := n0_; have HB := n1_; clear n0_ n1_))) | (go_at_call 18; (with_reducible refine (spec_l1All.calls k _ _ l0 20 100 true _ ?side1 ?side2 A4.out).mono ?_); (case side1 => repeat (first | exact (Kd.C_below HR0.out HB.out) | (with_reducible refine Kd.C_alloc ?_ _) | (with_reducible refine Kd.C_drewN ?_ _) | (with_reducible refine Kd.C_drew ?_))); (case side2 => exact HC0.out); rintro e w' ⟨rfl, ⟨nd, rfl⟩⟩; (try (rw [drewN_self w10]; generalize hq_ : World.drewN w10 _ = w10; have n0_ : Aside0 (w10.heap[gb101]? = some (.cells #[.slice none 0 0, .slice none 0 0, .slice none 0 0, .slice none 0 0, .int .i64 0] 25 (0, 0))) := ⟨by rw [← hq_]; exact (sB BK101.out)⟩; have n1_ : Aside0 (Below w.heap.size w w10) := ⟨by rw [← hq_]; exact (by repeat (first | (with_reducible first | exact HB.out | apply sLA | apply sLN | apply sLD | refine sLS ?_ GE101.out) | exact HB.out))⟩; clear BK101 HB hq_; have BK101 := n0_; have HB := n1_; clear n0_ n1_))))
       have n0_ := sA (blk_drew BK101.out)
       have n1_ := sA (below_drew1 HB.out)
       clear BK101
       clear HB
       have BK101 := n0_
       have HB := n1_
       clear n0_ n1_
       refine start_ (n := 12) (S := fun w' => True) (ds := []) (sM 12 0) (by kernel_rfl) rfl rfl trivial (fun hHeld => ?_); refine with_tabW spec_NewTurns.tab4 spec_NewTurns.bits4 (fun HT_ HW_ => ?_)
       generalize w10.drew = w11 at BK101 HB hHeld ⊢
       refine pure_ (i := 1) (N := some 17) (v := ?_) (a' := ?_) (sM 12 2) rfl rfl (any_of HT_.out (by kernel_rfl)) (fun _ _ _ h => h) (Or.inl ⟨by rfl, ?_⟩) ?_ ?_
       rotate_left
       ·intro w'
        go_simp
        with_reducible rfl
       rotate_left
       ·simp only [Act.put, sI, sZ, sV, i64_w, i32_w]
        rfl
       refine pure_ (i := 3) (N := some 19) (v := ?_) (a' := ?_) (sM 12 10) rfl rfl (any_of HT_.out (by kernel_rfl)) (fun _ _ _ h => h) (Or.inl ⟨by rfl, ?_⟩) ?_ ?_
       rotate_left
       ·intro w'
        go_simp
        with_reducible rfl
       rotate_left
       ·simp only [Act.put, sI, sZ, sV, i64_w, i32_w]
        rfl
       refine pure_ (i := 5) (N := some 21) (v := ?_) (a' := ?_) (sM 12 42) rfl rfl (any_of HT_.out (by kernel_rfl)) (fun _ _ _ h => h) (Or.inl ⟨by rfl, ?_⟩) ?_ ?_
       rotate_left
       ·intro w'
        go_simp
        with_reducible rfl
       rotate_left
       ·simp only [Act.put, sI, sZ, sV, i64_w, i32_w]
        rfl
       refine pure_ (i := 7) (N := some 23) (v := ?_) (a' := ?_) (sM 12 170) rfl rfl (any_of HT_.out (by kernel_rfl)) (fun _ _ _ h => h) (Or.inl ⟨by rfl, ?_⟩) ?_ ?_
       rotate_left
       ·intro w'
        go_simp
        with_reducible rfl
       rotate_left
       ·simp only [Act.put, sI, sZ, sV, i64_w, i32_w]
        rfl
       refine join_ (σ := Value × Value × Value × Value × Value) 3 (sM 12 511) (fun s_ => [(16, s_.1), (18, s_.2.1), (20, s_.2.2.1), (22, s_.2.2.2.1), (24, s_.2.2.2.2)]) (fun s_ w' => (Kd.R (Kd.int .i64) 3 w' w.heap.size (fun k_ => some k_ ≠ (s_.2.2.2.1 : Value).ownBlock ∧ some k_ ≠ (s_.2.2.2.2 : Value).ownBlock) s_.2.1 y107) ∧ (Kd.S (Kd.slice 3 (Kd.int .i64)) 22 w' w.heap.size (fun k_ => some k_ ≠ (s_.2.1 : Value).ownBlock ∧ some k_ ≠ (s_.2.2.2.1 : Value).ownBlock ∧ some k_ ≠ (s_.2.2.2.2 : Value).ownBlock) s_.2.2.1 y110) ∧ (Kd.R (Kd.int .i64) 3 w' w.heap.size (fun k_ => some k_ ≠ (s_.2.1 : Value).ownBlock ∧ some k_ ≠ (s_.2.2.2.2 : Value).ownBlock) s_.2.2.2.1 y113) ∧ (Kd.R (Kd.int .i64) 3 w' w.heap.size (fun k_ => some k_ ≠ (s_.2.1 : Value).ownBlock ∧ some k_ ≠ (s_.2.2.2.1 : Value).ownBlock) s_.2.2.2.2 y116) ∧ (w'.heap[gb101]? = some (.cells #[.slice none 0 0, .slice none 0 0, .slice none 0 0, .slice none 0 0, .int .i64 0] 25 (0, 0))) ∧ (Below w.heap.size w w')) ?_ ?_
       rotate_left
       ·intro hJ0_2_4_6_8
        refine join_ (σ := Value × Value × Value × Value) 4 (sM 12 255) (fun s_ => [(16, s_.1), (18, s_.2.1), (20, s_.2.2.1), (22, s_.2.2.2)]) (fun s_ w' => (Kd.R (Kd.int .i64) 3 w' w.heap.size (fun k_ => some k_ ≠ (s_.2.2.2 : Value).ownBlock) s_.2.1 y107) ∧ (Kd.S (Kd.slice 3 (Kd.int .i64)) 22 w' w.heap.size (fun k_ => some k_ ≠ (s_.2.1 : Value).ownBlock ∧ some k_ ≠ (s_.2.2.2 : Value).ownBlock) s_.2.2.1 y110) ∧ (Kd.R (Kd.int .i64) 3 w' w.heap.size (fun k_ => some k_ ≠ (s_.2.1 : Value).ownBlock) s_.2.2.2 y113) ∧ (w'.heap[gb101]? = some (.cells #[.slice none 0 0, .slice none 0 0, .slice none 0 0, .slice none 0 0, .int .i64 0] 25 (0, 0))) ∧ (Below w.heap.size w w')) ?_ ?_
        rotate_left
        ·intro hJ0_2_4_6
         refine join_ (σ := Value × Value × Value × Value) 4 (sM 12 447) (fun s_ => [(16, s_.1), (18, s_.2.1), (20, s_.2.2.1), (24, s_.2.2.2)]) (fun s_ w' => (Kd.R (Kd.int .i64) 3 w' w.heap.size (fun k_ => some k_ ≠ (s_.2.2.2 : Value).ownBlock) s_.2.1 y107) ∧ (Kd.S (Kd.slice 3 (Kd.int .i64)) 22 w' w.heap.size (fun k_ => some k_ ≠ (s_.2.1 : Value).ownBlock ∧ some k_ ≠ (s_.2.2.2 : Value).ownBlock) s_.2.2.1 y110) ∧ (Kd.R (Kd.int .i64) 3 w' w.heap.size (fun k_ => some k_ ≠ (s_.2.1 : Value).ownBlock) s_.2.2.2 y116) ∧ (w'.heap[gb101]? = some (.cells #[.slice none 0 0, .slice none 0 0, .slice none 0 0, .slice none 0 0, .int .i64 0] 25 (0, 0))) ∧ (Below w.heap.size w w')) ?_ ?_
         rotate_left
         ·intro hJ0_2_4_8
          refine join_ (σ := Value × Value × Value × Value) 4 (sM 12 495) (fun s_ => [(16, s_.1), (18, s_.2.1), (22, s_.2.2.1), (24, s_.2.2.2)]) (fun s_ w' => (Kd.R (Kd.int .i64) 3 w' w.heap.size (fun k_ => some k_ ≠ (s_.2.2.1 : Value).ownBlock ∧ some k_ ≠ (s_.2.2.2 : Value).ownBlock) s_.2.1 y107) ∧ (Kd.R (Kd.int .i64) 3 w' w.heap.size (fun k_ => some k_ ≠ (s_.2.1 : Value).ownBlock ∧ some k_ ≠ (s_.2.2.2 : Value).ownBlock) s_.2.2.1 y113) ∧ (Kd.R (Kd.int .i64) 3 w' w.heap.size (fun k_ => some k_ ≠ (s_.2.1 : Value).ownBlock ∧ some k_ ≠ (s_.2.2.1 : Value).ownBlock) s_.2.2.2 y116) ∧ (w'.heap[gb101]? = some (.cells #[.slice none 0 0, .slice none 0 0, .slice none 0 0, .slice none 0 0, .int .i64 0] 25 (0, 0))) ∧ (Below w.heap.size w w')) ?_ ?_
          rotate_left
          ·intro hJ0_2_6_8
           refine join_ (σ := Value × Value × Value × Value) 4 (sM 12 507) (fun s_ => [(16, s_.1), (20, s_.2.1), (22, s_.2.2.1), (24, s_.2.2.2)]) (fun s_ w' => (Kd.R (Kd.int .i64) 3 w' w.heap.size (fun k_ => some k_ ≠ (s_.2.2.1 : Value).ownBlock ∧ some k_ ≠ (s_.2.2.2 : Value).ownBlock) s_.1 y104) ∧ (Kd.S (Kd.slice 3 (Kd.int .i64)) 22 w' w.heap.size (fun k_ => some k_ ≠ (s_.1 : Value).ownBlock ∧ some k_ ≠ (s_.2.2.1 : Value).ownBlock ∧ some k_ ≠ (s_.2.2.2 : Value).ownBlock) s_.2.1 y110) ∧ (Kd.R (Kd.int .i64) 3 w' w.heap.size (fun k_ => some k_ ≠ (s_.1 : Value).ownBlock ∧ some k_ ≠ (s_.2.2.2 : Value).ownBlock) s_.2.2.1 y113) ∧ (Kd.R (Kd.int .i64) 3 w' w.heap.size (fun k_ => some k_ ≠ (s_.1 : Value).ownBlock ∧ some k_ ≠ (s_.2.2.1 : Value).ownBlock) s_.2.2.2 y116) ∧ (w'.heap[gb101]? = some (.cells #[.slice none 0 0, .slice none 0 0, .slice none 0 0, .slice none 0 0, .int .i64 0] 25 (0, 0))) ∧ (Below w.heap.size w w')) ?_ ?_
           rotate_left
           ·intro hJ0_4_6_8
            refine join_ (σ := Value × Value × Value) 5 (sM 12 191) (fun s_ => [(16, s_.1), (18, s_.2.1), (20, s_.2.2)]) (fun s_ w' => (Kd.R (Kd.int .i64) 3 w' w.heap.size (fun _ => True) s_.2.1 y107) ∧ (Kd.S (Kd.slice 3 (Kd.int .i64)) 22 w' w.heap.size (fun k_ => some k_ ≠ (s_.2.1 : Value).ownBlock) s_.2.2 y110) ∧ (w'.heap[gb101]? = some (.cells #[.slice none 0 0, .slice none 0 0, .slice none 0 0, .slice none 0 0, .int .i64 0] 25 (0, 0))) ∧ (Below w.heap.size w w')) ?_ ?_
            rotate_left
            ·intro hJ0_2_4
             refine join_ (σ := Value × Value × Value) 5 (sM 12 239) (fun s_ => [(16, s_.1), (18, s_.2.1), (22, s_.2.2)]) (fun s_ w' => (Kd.R (Kd.int .i64) 3 w' w.heap.size (fun k_ => some k_ ≠ (s_.2.2 : Value).ownBlock) s_.2.1 y107) ∧ (Kd.R (Kd.int .i64) 3 w' w.heap.size (fun k_ => some k_ ≠ (s_.2.1 : Value).ownBlock) s_.2.2 y113) ∧ (w'.heap[gb101]? = some (.cells #[.slice none 0 0, .slice none 0 0, .slice none 0 0, .slice none 0 0, .int .i64 0] 25 (0, 0))) ∧ (Below w.heap.size w w')) ?_ ?_
             rotate_left
             ·intro hJ0_2_6
              refine join_ (σ := Value × Value × Value) 5 (sM 12 431) (fun s_ => [(16, s_.1), (18, s_.2.1), (24, s_.2.2)]) (fun s_ w' => (Kd.R (Kd.int .i64) 3 w' w.heap.size (fun k_ => some k_ ≠ (s_.2.2 : Value).ownBlock) s_.2.1 y107) ∧ (Kd.R (Kd.int .i64) 3 w' w.heap.size (fun k_ => some k_ ≠ (s_.2.1 : Value).ownBlock) s_.2.2 y116) ∧ (w'.heap[gb101]? = some (.cells #[.slice none 0 0, .slice none 0 0, .slice none 0 0, .slice none 0 0, .int .i64 0] 25 (0, 0))) ∧ (Below w.heap.size w w')) ?_ ?_
              rotate_left
              ·intro hJ0_2_8
               refine join_ (σ := Value × Value × Value) 5 (sM 12 251) (fun s_ => [(16, s_.1), (20, s_.2.1), (22, s_.2.2)]) (fun s_ w' => (Kd.R (Kd.int .i64) 3 w' w.heap.size (fun k_ => some k_ ≠ (s_.2.2 : Value).ownBlock) s_.1 y104) ∧ (Kd.S (Kd.slice 3 (Kd.int .i64)) 22 w' w.heap.size (fun k_ => some k_ ≠ (s_.1 : Value).ownBlock ∧ some k_ ≠ (s_.2.2 : Value).ownBlock) s_.2.1 y110) ∧ (Kd.R (Kd.int .i64) 3 w' w.heap.size (fun k_ => some k_ ≠ (s_.1 : Value).ownBlock) s_.2.2 y113) ∧ (w'.heap[gb101]? = some (.cells #[.slice none 0 0, .slice none 0 0, .slice none 0 0, .slice none 0 0, .int .i64 0] 25 (0, 0))) ∧ (Below w.heap.size w w')) ?_ ?_
               rotate_left
               ·intro hJ0_4_6
                refine join_ (σ := Value × Value × Value) 5 (sM 12 443) (fun s_ => [(16, s_.1), (20, s_.2.1), (24, s_.2.2)]) (fun s_ w' => (Kd.R (Kd.int .i64) 3 w' w.heap.size (fun k_ => some k_ ≠ (s_.2.2 : Value).ownBlock) s_.1 y104) ∧ (Kd.S (Kd.slice 3 (Kd.int .i64)) 22 w' w.heap.size (fun k_ => some k_ ≠ (s_.1 : Value).ownBlock ∧ some k_ ≠ (s_.2.2 : Value).ownBlock) s_.2.1 y110) ∧ (Kd.R (Kd.int .i64) 3 w' w.heap.size (fun k_ => some k_ ≠ (s_.1 : Value).ownBlock) s_.2.2 y116) ∧ (w'.heap[gb101]? = some (.cells #[.slice none 0 0, .slice none 0 0, .slice none 0 0, .slice none 0 0, .int .i64 0] 25 (0, 0))) ∧ (Below w.heap.size w w')) ?_ ?_
                rotate_left
                ·intro hJ0_4_8
                 refine join_ (σ := Value × Value × Value) 5 (sM 12 491) (fun s_ => [(16, s_.1), (22, s_.2.1), (24, s_.2.2)]) (fun s_ w' => (Kd.R (Kd.int .i64) 3 w' w.heap.size (fun k_ => some k_ ≠ (s_.2.1 : Value).ownBlock ∧ some k_ ≠ (s_.2.2 : Value).ownBlock) s_.1 y104) ∧ (Kd.R (Kd.int .i64) 3 w' w.heap.size (fun k_ => some k_ ≠ (s_.1 : Value).ownBlock ∧ some k_ ≠ (s_.2.2 : Value).ownBlock) s_.2.1 y113) ∧ (Kd.R (Kd.int .i64) 3 w' w.heap.size (fun k_ => some k_ ≠ (s_.1 : Value).ownBlock ∧ some k_ ≠ (s_.2.1 : Value).ownBlock) s_.2.2 y116) ∧ (w'.heap[gb101]? = some (.cells #[.slice none 0 0, .slice none 0 0, .slice none 0 0, .slice none 0 0, .int .i64 0] 25 (0, 0))) ∧ (Below w.heap.size w w')) ?_ ?_
                 rotate_left
                 ·intro hJ0_6_8
                  refine join_ (σ := Value × Value × Value) 5 (sM 12 506) (fun s_ => [(20, s_.1), (22, s_.2.1), (24, s_.2.2)]) (fun s_ w' => (Kd.S (Kd.slice 3 (Kd.int .i64)) 22 w' w.heap.size (fun k_ => some k_ ≠ (s_.2.1 : Value).ownBlock ∧ some k_ ≠ (s_.2.2 : Value).ownBlock) s_.1 y110) ∧ (Kd.R (Kd.int .i64) 3 w' w.heap.size (fun k_ => some k_ ≠ (s_.2.2 : Value).ownBlock) s_.2.1 y113) ∧ (Kd.R (Kd.int .i64) 3 w' w.heap.size (fun k_ => some k_ ≠ (s_.2.1 : Value).ownBlock) s_.2.2 y116) ∧ (w'.heap[gb101]? = some (.cells #[.slice none 0 0, .slice none 0 0, .slice none 0 0, .slice none 0 0, .int .i64 0] 25 (0, 0))) ∧ (Below w.heap.size w w')) ?_ ?_
                  rotate_left
                  ·intro hJ4_6_8
                   refine join_ (σ := Value × Value) 6 (sM 12 175) (fun s_ => [(16, s_.1), (18, s_.2)]) (fun s_ w' => (Kd.R (Kd.int .i64) 3 w' w.heap.size (fun _ => True) s_.2 y107) ∧ (w'.heap[gb101]? = some (.cells #[.slice none 0 0, .slice none 0 0, .slice none 0 0, .slice none 0 0, .int .i64 0] 25 (0, 0))) ∧ (Below w.heap.size w w')) ?_ ?_
                   rotate_left
                   ·intro hJ0_2
                    refine join_ (σ := Value × Value) 6 (sM 12 187) (fun s_ => [(16, s_.1), (20, s_.2)]) (fun s_ w' => (Kd.R (Kd.int .i64) 3 w' w.heap.size (fun _ => True) s_.1 y104) ∧ (Kd.S (Kd.slice 3 (Kd.int .i64)) 22 w' w.heap.size (fun k_ => some k_ ≠ (s_.1 : Value).ownBlock) s_.2 y110) ∧ (w'.heap[gb101]? = some (.cells #[.slice none 0 0, .slice none 0 0, .slice none 0 0, .slice none 0 0, .int .i64 0] 25 (0, 0))) ∧ (Below w.heap.size w w')) ?_ ?_
                    rotate_left
                    ·intro hJ0_4
                     refine join_ (σ := Value × Value) 6 (sM 12 235) (fun s_ => [(16, s_.1), (22, s_.2)]) (fun s_ w' => (Kd.R (Kd.int .i64) 3 w' w.heap.size (fun k_ => some k_ ≠ (s_.2 : Value).ownBlock) s_.1 y104) ∧ (Kd.R (Kd.int .i64) 3 w' w.heap.size (fun k_ => some k_ ≠ (s_.1 : Value).ownBlock) s_.2 y113) ∧ (w'.heap[gb101]? = some (.cells #[.slice none 0 0, .slice none 0 0, .slice none 0 0, .slice none 0 0, .int .i64 0] 25 (0, 0))) ∧ (Below w.heap.size w w')) ?_ ?_
                     rotate_left
                     ·intro hJ0_6
                      refine join_ (σ := Value × Value) 6 (sM 12 427) (fun s_ => [(16, s_.1), (24, s_.2)]) (fun s_ w' => (Kd.R (Kd.int .i64) 3 w' w.heap.size (fun k_ => some k_ ≠ (s_.2 : Value).ownBlock) s_.1 y104) ∧ (Kd.R (Kd.int .i64) 3 w' w.heap.size (fun k_ => some k_ ≠ (s_.1 : Value).ownBlock) s_.2 y116) ∧ (w'.heap[gb101]? = some (.cells #[.slice none 0 0, .slice none 0 0, .slice none 0 0, .slice none 0 0, .int .i64 0] 25 (0, 0))) ∧ (Below w.heap.size w w')) ?_ ?_
                      rotate_left
                      ·intro hJ0_8
                       refine join_ (σ := Value × Value) 6 (sM 12 250) (fun s_ => [(20, s_.1), (22, s_.2)]) (fun s_ w' => (Kd.S (Kd.slice 3 (Kd.int .i64)) 22 w' w.heap.size (fun k_ => some k_ ≠ (s_.2 : Value).ownBlock) s_.1 y110) ∧ (Kd.R (Kd.int .i64) 3 w' w.heap.size (fun _ => True) s_.2 y113) ∧ (w'.heap[gb101]? = some (.cells #[.slice none 0 0, .slice none 0 0, .slice none 0 0, .slice none 0 0, .int .i64 0] 25 (0, 0))) ∧ (Below w.heap.size w w')) ?_ ?_
                       rotate_left
                       ·intro hJ4_6
                        refine join_ (σ := Value × Value) 6 (sM 12 442) (fun s_ => [(20, s_.1), (24, s_.2)]) (fun s_ w' => (Kd.S (Kd.slice 3 (Kd.int .i64)) 22 w' w.heap.size (fun k_ => some k_ ≠ (s_.2 : Value).ownBlock) s_.1 y110) ∧ (Kd.R (Kd.int .i64) 3 w' w.heap.size (fun _ => True) s_.2 y116) ∧ (w'.heap[gb101]? = some (.cells #[.slice none 0 0, .slice none 0 0, .slice none 0 0, .slice none 0 0, .int .i64 0] 25 (0, 0))) ∧ (Below w.heap.size w w')) ?_ ?_
                        rotate_left
                        ·intro hJ4_8
                         refine join_ (σ := Value × Value) 6 (sM 12 490) (fun s_ => [(22, s_.1), (24, s_.2)]) (fun s_ w' => (Kd.R (Kd.int .i64) 3 w' w.heap.size (fun k_ => some k_ ≠ (s_.2 : Value).ownBlock) s_.1 y113) ∧ (Kd.R (Kd.int .i64) 3 w' w.heap.size (fun k_ => some k_ ≠ (s_.1 : Value).ownBlock) s_.2 y116) ∧ (w'.heap[gb101]? = some (.cells #[.slice none 0 0, .slice none 0 0, .slice none 0 0, .slice none 0 0, .int .i64 0] 25 (0, 0))) ∧ (Below w.heap.size w w')) ?_ ?_
                         rotate_left
                         ·intro hJ6_8
                          refine join_ (σ := Value) 7 (sM 12 171) (fun s_ => [(16, s_)]) (fun s_ w' => (Kd.R (Kd.int .i64) 3 w' w.heap.size (fun _ => True) s_ y104) ∧ (w'.heap[gb101]? = some (.cells #[.slice none 0 0, .slice none 0 0, .slice none 0 0, .slice none 0 0, .int .i64 0] 25 (0, 0))) ∧ (Below w.heap.size w w')) ?_ ?_
                          rotate_left
                          ·intro hJ0
                           refine join_ (σ := Value) 7 (sM 12 186) (fun s_ => [(20, s_)]) (fun s_ w' => (Kd.S (Kd.slice 3 (Kd.int .i64)) 22 w' w.heap.size (fun _ => True) s_ y110) ∧ (w'.heap[gb101]? = some (.cells #[.slice none 0 0, .slice none 0 0, .slice none 0 0, .slice none 0 0, .int .i64 0] 25 (0, 0))) ∧ (Below w.heap.size w w')) ?_ ?_
                           rotate_left
                           ·intro hJ4
                            refine join_ (σ := Value) 7 (sM 12 234) (fun s_ => [(22, s_)]) (fun s_ w' => (Kd.R (Kd.int .i64) 3 w' w.heap.size (fun _ => True) s_ y113) ∧ (w'.heap[gb101]? = some (.cells #[.slice none 0 0, .slice none 0 0, .slice none 0 0, .slice none 0 0, .int .i64 0] 25 (0, 0))) ∧ (Below w.heap.size w w')) ?_ ?_
                            rotate_left
                            ·intro hJ6
                             refine join_ (σ := Value) 7 (sM 12 426) (fun s_ => [(24, s_)]) (fun s_ w' => (Kd.R (Kd.int .i64) 3 w' w.heap.size (fun _ => True) s_ y116) ∧ (w'.heap[gb101]? = some (.cells #[.slice none 0 0, .slice none 0 0, .slice none 0 0, .slice none 0 0, .int .i64 0] 25 (0, 0))) ∧ (Below w.heap.size w w')) ?_ ?_
                             rotate_left
                             ·intro hJ8
                              refine four_ (i := 0) (j := 4) (k := 6) (m := 8) (Ni := some 16) (Nj := some 20) (Nk := some 22) (Nm := some 24) (sM 12 171) (sM 12 186) (sM 12 234) (sM 12 426) rfl rfl rfl rfl rfl rfl rfl rfl (four_of HT_.out (by kernel_rfl)) (by decide) (by decide) (by decide) (by decide) (fun K hK => ?_) (fun K hK => ?_) (fun K hK => ?_) (fun K hK => ?_)
                              ·skip
                               refine Kd.R_lit_step (Kd.int .i64) _ 3 ?hg (N := 16) ?hd (xs := ([] : List Int)) (inner := []) (ok := fun _ => True) (okp := fun _ => True) ?hr ?hp (fun _ hk => hk) trivial (Below.refl _ _) (Nat.le_refl _) (by simp) ?_; (case hd => rfl); (case hg => rfl); (case hr => first | (go_simp; done) | (go_simp; rfl)); (case hp => exact (Reps.none _ _))
                               intro v105 w12 ho13 hb hg_ hnew_
                               clear hg_ hnew_
                               (first | rw [← Ny104.out] at ho13 | (simp only [Int.reduceToNat] at ho13; rw [← Ny104.out] at ho13))
                               have n0_ := sA (Kd.R_lower ho13 (below_size (by repeat (first | (with_reducible first | exact HB.out | apply sLA | apply sLN | apply sLD | refine sLS ?_ GE101.out) | exact HB.out))))
                               have n1_ := sA (blk_below (sB BK101.out) hb)
                               have n2_ := sA (below_step (by repeat (first | (with_reducible first | exact HB.out | apply sLA | apply sLN | apply sLD | refine sLS ?_ GE101.out) | exact HB.out)) hb)
                               clear BK101
                               clear HB
                               have HO106 := n0_
                               have BK101 := n1_
                               have HB := n2_
                               clear n0_ n1_ n2_
                               clear hb ho13
                               refine hK.out _ _ trivial (fun hHeld => ?_)
                               clear hK K
                               refine norm_ (a' := ?_) ?_ ?_
                               rotate_left
                               ·show Act.put _ (some 16) _ = _
                                simp only [Act.put, sI, sZ, sV, i64_w, i32_w]
                                rfl
                               exact norm_ (by first | (simp only [putAll, Act.put, sI, sZ, sV]; done) | (simp only [putAll, Act.put, sI, sZ, sV]; rfl)) (hJ0 (v105) _ ⟨(sR HO106.out), (sB BK101.out), (by repeat (first | (with_reducible first | exact HB.out | apply sLA | apply sLN | apply sLD | refine sLS ?_ GE101.out) | exact HB.out))⟩)
                              ·skip
                               refine Kd.S_make_step (Kd.slice 3 (Kd.int .i64)) _ 22 (by rfl) (N := 20) rfl 23 _ _ rfl (l0.length : Int) rfl rfl Try.underlying23 (.slice none 0 0) 24 info22 rfl (by decide) (by omega) [] (ok := fun _ => True) (okp := fun _ => True) ⟨_, rfl, Kd.R_nil _ _ _ _ _⟩ (fun _ hk => hk) trivial (of_decide_eq_true (by first | (with_reducible assumption) | assumption)) (Nat.le_trans (Nat.mul_le_mul_right _ (of_decide_eq_true (by first | (with_reducible assumption) | assumption) : (l0.length : Int).toNat ≤ 11728124029610)) (by omega)) (Below.refl _ _) (Nat.le_refl _) ?_
                               intro v111 w12 ho13 hb hg_ hnew_
                               clear hg_ hnew_
                               (first | rw [← Ny110.out] at ho13 | (simp only [Int.reduceToNat] at ho13; rw [← Ny110.out] at ho13))
                               have n0_ := sA (Kd.S_lower ho13 (below_size (by repeat (first | (with_reducible first | exact HB.out | apply sLA | apply sLN | apply sLD | refine sLS ?_ GE101.out) | exact HB.out))))
                               have n1_ := sA (blk_below (sB BK101.out) hb)
                               have n2_ := sA (below_step (by repeat (first | (with_reducible first | exact HB.out | apply sLA | apply sLN | apply sLD | refine sLS ?_ GE101.out) | exact HB.out)) hb)
                               clear BK101
                               clear HB
                               have HO112 := n0_
                               have BK101 := n1_
                               have HB := n2_
                               clear n0_ n1_ n2_
                               clear hb ho13
                               refine hK.out _ _ trivial (fun hHeld => ?_)
                               clear hK K
                               refine norm_ (a' := ?_) ?_ ?_
                               rotate_left
                               ·show Act.put _ (some 20) _ = _
                                simp only [Act.put, sI, sZ, sV, i64_w, i32_w]
                                rfl
                               exact norm_ (by first | (simp only [putAll, Act.put, sI, sZ, sV]; done) | (simp only [putAll, Act.put, sI, sZ, sV]; rfl)) (hJ4 (v111) _ ⟨(by (with_reducible repeat (first | apply Kd.S_alloc | apply Kd.S_drewN | apply Kd.S_drew)); exact HO112.out), (sB BK101.out), (by repeat (first | (with_reducible first | exact HB.out | apply sLA | apply sLN | apply sLD | refine sLS ?_ GE101.out) | exact HB.out))⟩)
                              ·skip
                               refine Kd.R_make_step (Kd.int .i64) _ 3 (by rfl) (N := 22) rfl 22 _ _ rfl (l0.length : Int) rfl rfl Try.underlying22 (.int .i64 0) 8 info3 rfl (by decide) (by omega) 0 (ok := fun _ => True) (okp := fun _ => True) rfl (fun _ hk => hk) trivial (of_decide_eq_true (by first | (with_reducible assumption) | assumption)) (Nat.le_trans (Nat.mul_le_mul_right _ (of_decide_eq_true (by first | (with_reducible assumption) | assumption) : (l0.length : Int).toNat ≤ 35184372088832)) (by omega)) (Below.refl _ _) (Nat.le_refl _) ?_
                               intro v114 w12 ho13 hb hg_ hnew_
                               clear hg_ hnew_
                               (first | rw [← Ny113.out] at ho13 | (simp only [Int.reduceToNat] at ho13; rw [← Ny113.out] at ho13))
                               have n0_ := sA (Kd.R_lower ho13 (below_size (by repeat (first | (with_reducible first | exact HB.out | apply sLA | apply sLN | apply sLD | refine sLS ?_ GE101.out) | exact HB.out))))
                               have n1_ := sA (blk_below (sB BK101.out) hb)
                               have n2_ := sA (below_step (by repeat (first | (with_reducible first | exact HB.out | apply sLA | apply sLN | apply sLD | refine sLS ?_ GE101.out) | exact HB.out)) hb)
                               clear BK101
                               clear HB
                               have HO115 := n0_
                               have BK101 := n1_
                               have HB := n2_
                               clear n0_ n1_ n2_
                               clear hb ho13
                               refine hK.out _ _ trivial (fun hHeld => ?_)
                               clear hK K
                               refine norm_ (a' := ?_) ?_ ?_
                               rotate_left
                               ·show Act.put _ (some 22) _ = _
                                simp only [Act.put, sI, sZ, sV, i64_w, i32_w]
                                rfl
                               exact norm_ (by first | (simp only [putAll, Act.put, sI, sZ, sV]; done) | (simp only [putAll, Act.put, sI, sZ, sV]; rfl)) (hJ6 (v114) _ ⟨(sR HO115.out), (sB BK101.out), (by repeat (first | (with_reducible first | exact HB.out | apply sLA | apply sLN | apply sLD | refine sLS ?_ GE101.out) | exact HB.out))⟩)
                              ·skip
                               refine Kd.R_make_step (Kd.int .i64) _ 3 (by rfl) (N := 24) rfl 22 _ _ rfl (l0.length : Int) rfl rfl Try.underlying22 (.int .i64 0) 8 info3 rfl (by decide) (by omega) 0 (ok := fun _ => True) (okp := fun _ => True) rfl (fun _ hk => hk) trivial (of_decide_eq_true (by first | (with_reducible assumption) | assumption)) (Nat.le_trans (Nat.mul_le_mul_right _ (of_decide_eq_true (by first | (with_reducible assumption) | assumption) : (l0.length : Int).toNat ≤ 35184372088832)) (by omega)) (Below.refl _ _) (Nat.le_refl _) ?_
                               intro v117 w12 ho13 hb hg_ hnew_
                               clear hg_ hnew_
                               (first | rw [← Ny116.out] at ho13 | (simp only [Int.reduceToNat] at ho13; rw [← Ny116.out] at ho13))
                               have n0_ := sA (Kd.R_lower ho13 (below_size (by repeat (first | (with_reducible first | exact HB.out | apply sLA | apply sLN | apply sLD | refine sLS ?_ GE101.out) | exact HB.out))))
                               have n1_ := sA (blk_below (sB BK101.out) hb)
                               have n2_ := sA (below_step (by repeat (first | (with_reducible first | exact HB.out | apply sLA | apply sLN | apply sLD | refine sLS ?_ GE101.out) | exact HB.out)) hb)
                               clear BK101
                               clear HB
                               have HO118 := n0_
                               have BK101 := n1_
                               have HB := n2_
                               clear n0_ n1_ n2_
                               clear hb ho13
                               refine hK.out _ _ trivial (fun hHeld => ?_)
                               clear hK K
                               refine norm_ (a' := ?_) ?_ ?_
                               rotate_left
                               ·show Act.put _ (some 24) _ = _
                                simp only [Act.put, sI, sZ, sV, i64_w, i32_w]
                                rfl
                               exact norm_ (by first | (simp only [putAll, Act.put, sI, sZ, sV]; done) | (simp only [putAll, Act.put, sI, sZ, sV]; rfl)) (hJ8 (v117) _ ⟨(sR HO118.out), (sB BK101.out), (by repeat (first | (with_reducible first | exact HB.out | apply sLA | apply sLN | apply sLD | refine sLS ?_ GE101.out) | exact HB.out))⟩)
                             ·skip
                              rintro v117 w14 ⟨h0_, h1_, h2_⟩
                              have n0_ : Aside0 (Kd.R (Kd.int .i64) 3 w14 w.heap.size (fun _ => True) v117 y116) := ⟨h0_⟩
                              have n1_ : Aside0 (w14.heap[gb101]? = some (.cells #[.slice none 0 0, .slice none 0 0, .slice none 0 0, .slice none 0 0, .int .i64 0] 25 (0, 0))) := ⟨h1_⟩
                              have n2_ : Aside0 (Below w.heap.size w w14) := ⟨h2_⟩
                              clear BK101
                              clear HB
                              clear h0_ h1_ h2_
                              have HO118 := n0_
                              have BK101 := n1_
                              have HB := n2_
                              clear n0_ n1_ n2_
                              have hHeld := trivial
                              refine norm_ (a' := ?_) ?_ ?_
                              rotate_left
                              ·simp only [putAll, Act.put, sI, sZ, sV]
                               rfl
                              refine three_ (i := 0) (j := 4) (k := 6) (Ni := some 16) (Nj := some 20) (Nk := some 22) (sM 12 427) (sM 12 442) (sM 12 490) rfl rfl rfl rfl rfl rfl (three_of HT_.out (by kernel_rfl)) (by decide) (by decide) (by decide) (fun K hK => ?_) (fun K hK => ?_) (fun K hK => ?_)
                              ·skip
                               refine Kd.R_lit_step (Kd.int .i64) _ 3 ?hg (N := 16) ?hd (xs := ([] : List Int)) (inner := []) (ok := fun _ => True) (okp := fun _ => True) ?hr ?hp (fun _ hk => hk) trivial (Below.refl _ _) (Nat.le_refl _) (by simp) ?_; (case hd => rfl); (case hg => rfl); (case hr => first | (go_simp; done) | (go_simp; rfl)); (case hp => exact (Reps.none _ _))
                               intro v105 w15 ho16 hb hg_ hnew_
                               clear hg_ hnew_
                               (first | rw [← Ny104.out] at ho16 | (simp only [Int.reduceToNat] at ho16; rw [← Ny104.out] at ho16))
                               have n0_ := sA (Kd.R_elder' (sR HO118.out) (Kd.R_base ho16) hb)
                               have n1_ := sA (Kd.R_lower (Kd.R_new' ho16 (Kd.R_lt (sR HO118.out))) (below_size (by repeat (first | (with_reducible first | exact HB.out | apply sLA | apply sLN | apply sLD | refine sLS ?_ GE101.out) | exact HB.out))))
                               have n2_ := sA (blk_below (sB BK101.out) hb)
                               have n3_ := sA (below_step (by repeat (first | (with_reducible first | exact HB.out | apply sLA | apply sLN | apply sLD | refine sLS ?_ GE101.out) | exact HB.out)) hb)
                               clear HO118
                               clear BK101
                               clear HB
                               have HO118 := n0_
                               have HO106 := n1_
                               have BK101 := n2_
                               have HB := n3_
                               clear n0_ n1_ n2_ n3_
                               clear hb ho16
                               refine hK.out _ _ trivial (fun hHeld => ?_)
                               clear hK K
                               refine norm_ (a' := ?_) ?_ ?_
                               rotate_left
                               ·show Act.put _ (some 16) _ = _
                                simp only [Act.put, sI, sZ, sV, i64_w, i32_w]
                                rfl
                               exact norm_ (by first | (simp only [putAll, Act.put, sI, sZ, sV]; done) | (simp only [putAll, Act.put, sI, sZ, sV]; rfl)) (hJ0_8 (v105, v117) _ ⟨(sR (Kd.R_mono HO106.out (fun _ hk => hk.2))), (sR (Kd.R_mono HO118.out (fun _ hk => hk.2))), (sB BK101.out), (by repeat (first | (with_reducible first | exact HB.out | apply sLA | apply sLN | apply sLD | refine sLS ?_ GE101.out) | exact HB.out))⟩)
                              ·skip
                               refine Kd.S_make_step (Kd.slice 3 (Kd.int .i64)) _ 22 (by rfl) (N := 20) rfl 23 _ _ rfl (l0.length : Int) rfl rfl Try.underlying23 (.slice none 0 0) 24 info22 rfl (by decide) (by omega) [] (ok := fun _ => True) (okp := fun _ => True) ⟨_, rfl, Kd.R_nil _ _ _ _ _⟩ (fun _ hk => hk) trivial (of_decide_eq_true (by first | (with_reducible assumption) | assumption)) (Nat.le_trans (Nat.mul_le_mul_right _ (of_decide_eq_true (by first | (with_reducible assumption) | assumption) : (l0.length : Int).toNat ≤ 11728124029610)) (by omega)) (Below.refl _ _) (Nat.le_refl _) ?_
                               intro v111 w15 ho16 hb hg_ hnew_
                               clear hg_ hnew_
                               (first | rw [← Ny110.out] at ho16 | (simp only [Int.reduceToNat] at ho16; rw [← Ny110.out] at ho16))
                               have n0_ := sA (Kd.R_below (sR HO118.out) hb)
                               have n1_ := sA (Kd.S_lower (Kd.S_new' ho16 (Kd.R_lt (sR HO118.out))) (below_size (by repeat (first | (with_reducible first | exact HB.out | apply sLA | apply sLN | apply sLD | refine sLS ?_ GE101.out) | exact HB.out))))
                               have n2_ := sA (blk_below (sB BK101.out) hb)
                               have n3_ := sA (below_step (by repeat (first | (with_reducible first | exact HB.out | apply sLA | apply sLN | apply sLD | refine sLS ?_ GE101.out) | exact HB.out)) hb)
                               clear HO118
                               clear BK101
                               clear HB
                               have HO118 := n0_
                               have HO112 := n1_
                               have BK101 := n2_
                               have HB := n3_
                               clear n0_ n1_ n2_ n3_
                               clear hb ho16
                               refine hK.out _ _ trivial (fun hHeld => ?_)
                               clear hK K
                               refine norm_ (a' := ?_) ?_ ?_
                               rotate_left
                               ·show Act.put _ (some 20) _ = _
                                simp only [Act.put, sI, sZ, sV, i64_w, i32_w]
                                rfl
                               exact norm_ (by first | (simp only [putAll, Act.put, sI, sZ, sV]; done) | (simp only [putAll, Act.put, sI, sZ, sV]; rfl)) (hJ4_8 (v111, v117) _ ⟨(by (with_reducible repeat (first | apply Kd.S_alloc | apply Kd.S_drewN | apply Kd.S_drew)); exact Kd.S_mono HO112.out (fun _ hk => hk.2)), (sR HO118.out), (sB BK101.out), (by repeat (first | (with_reducible first | exact HB.out | apply sLA | apply sLN | apply sLD | refine sLS ?_ GE101.out) | exact HB.out))⟩)
                              ·skip
                               refine Kd.R_make_step (Kd.int .i64) _ 3 (by rfl) (N := 22) rfl 22 _ _ rfl (l0.length : Int) rfl rfl Try.underlying22 (.int .i64 0) 8 info3 rfl (by decide) (by omega) 0 (ok := fun _ => True) (okp := fun _ => True) rfl (fun _ hk => hk) trivial (of_decide_eq_true (by first | (with_reducible assumption) | assumption)) (Nat.le_trans (Nat.mul_le_mul_right _ (of_decide_eq_true (by first | (with_reducible assumption) | assumption) : (l0.length : Int).toNat ≤ 35184372088832)) (by omega)) (Below.refl _ _) (Nat.le_refl _) ?_
                               intro v114 w15 ho16 hb hg_ hnew_
                               clear hg_ hnew_
                               (first | rw [← Ny113.out] at ho16 | (simp only [Int.reduceToNat] at ho16; rw [← Ny113.out] at ho16))
                               have n0_ := sA (Kd.R_elder' (sR HO118.out) (Kd.R_base ho16) hb)
                               have n1_ := sA (Kd.R_lower (Kd.R_new' ho16 (Kd.R_lt (sR HO118.out))) (below_size (by repeat (first | (with_reducible first | exact HB.out | apply sLA | apply sLN | apply sLD | refine sLS ?_ GE101.out) | exact HB.out))))
                               have n2_ := sA (blk_below (sB BK101.out) hb)
                               have n3_ := sA (below_step (by repeat (first | (with_reducible first | exact HB.out | apply sLA | apply sLN | apply sLD | refine sLS ?_ GE101.out) | exact HB.out)) hb)
                               clear HO118
                               clear BK101
                               clear HB
                               have HO118 := n0_
                               have HO115 := n1_
                               have BK101 := n2_
                               have HB := n3_
                               clear n0_ n1_ n2_ n3_
                               clear hb ho16
                               refine hK.out _ _ trivial (fun hHeld => ?_)
                               clear hK K
                               refine norm_ (a' := ?_) ?_ ?_
                               rotate_left
                               ·show Act.put _ (some 22) _ = _
                                simp only [Act.put, sI, sZ, sV, i64_w, i32_w]
                                rfl
                               exact norm_ (by first | (simp only [putAll, Act.put, sI, sZ, sV]; done) | (simp only [putAll, Act.put, sI, sZ, sV]; rfl)) (hJ6_8 (v114, v117) _ ⟨(sR (Kd.R_mono HO115.out (fun _ hk => hk.2))), (sR (Kd.R_mono HO118.out (fun _ hk => hk.2))), (sB BK101.out), (by repeat (first | (with_reducible first | exact HB.out | apply sLA | apply sLN | apply sLD | refine sLS ?_ GE101.out) | exact HB.out))⟩)
                            ·skip
                             rintro v114 w14 ⟨h0_, h1_, h2_⟩
                             have n0_ : Aside0 (Kd.R (Kd.int .i64) 3 w14 w.heap.size (fun _ => True) v114 y113) := ⟨h0_⟩
                             have n1_ : Aside0 (w14.heap[gb101]? = some (.cells #[.slice none 0 0, .slice none 0 0, .slice none 0 0, .slice none 0 0, .int .i64 0] 25 (0, 0))) := ⟨h1_⟩
                             have n2_ : Aside0 (Below w.heap.size w w14) := ⟨h2_⟩
                             clear BK101
                             clear HB
                             clear h0_ h1_ h2_
                             have HO115 := n0_
                             have BK101 := n1_
                             have HB := n2_
                             clear n0_ n1_ n2_
                             have hHeld := trivial
                             refine norm_ (a' := ?_) ?_ ?_
                             rotate_left
                             ·simp only [putAll, Act.put, sI, sZ, sV]
                              rfl
                             refine three_ (i := 0) (j := 4) (k := 8) (Ni := some 16) (Nj := some 20) (Nk := some 24) (sM 12 235) (sM 12 250) (sM 12 490) rfl rfl rfl rfl rfl rfl (three_of HT_.out (by kernel_rfl)) (by decide) (by decide) (by decide) (fun K hK => ?_) (fun K hK => ?_) (fun K hK => ?_)
                             ·skip
                              refine Kd.R_lit_step (Kd.int .i64) _ 3 ?hg (N := 16) ?hd (xs := ([] : List Int)) (inner := []) (ok := fun _ => True) (okp := fun _ => True) ?hr ?hp (fun _ hk => hk) trivial (Below.refl _ _) (Nat.le_refl _) (by simp) ?_; (case hd => rfl); (case hg => rfl); (case hr => first | (go_simp; done) | (go_simp; rfl)); (case hp => exact (Reps.none _ _))
                              intro v105 w15 ho16 hb hg_ hnew_
                              clear hg_ hnew_
                              (first | rw [← Ny104.out] at ho16 | (simp only [Int.reduceToNat] at ho16; rw [← Ny104.out] at ho16))
                              have n0_ := sA (Kd.R_elder' (sR HO115.out) (Kd.R_base ho16) hb)
                              have n1_ := sA (Kd.R_lower (Kd.R_new' ho16 (Kd.R_lt (sR HO115.out))) (below_size (by repeat (first | (with_reducible first | exact HB.out | apply sLA | apply sLN | apply sLD | refine sLS ?_ GE101.out) | exact HB.out))))
                              have n2_ := sA (blk_below (sB BK101.out) hb)
                              have n3_ := sA (below_step (by repeat (first | (with_reducible first | exact HB.out | apply sLA | apply sLN | apply sLD | refine sLS ?_ GE101.out) | exact HB.out)) hb)
                              clear HO115
                              clear BK101
                              clear HB
                              have HO115 := n0_
                              have HO106 := n1_
                              have BK101 := n2_
                              have HB := n3_
                              clear n0_ n1_ n2_ n3_
                              clear hb ho16
                              refine hK.out _ _ trivial (fun hHeld => ?_)
                              clear hK K
                              refine norm_ (a' := ?_) ?_ ?_
                              rotate_left
                              ·show Act.put _ (some 16) _ = _
                               simp only [Act.put, sI, sZ, sV, i64_w, i32_w]
                               rfl
                              exact norm_ (by first | (simp only [putAll, Act.put, sI, sZ, sV]; done) | (simp only [putAll, Act.put, sI, sZ, sV]; rfl)) (hJ0_6 (v105, v114) _ ⟨(sR (Kd.R_mono HO106.out (fun _ hk => hk.2))), (sR (Kd.R_mono HO115.out (fun _ hk => hk.2))), (sB BK101.out), (by repeat (first | (with_reducible first | exact HB.out | apply sLA | apply sLN | apply sLD | refine sLS ?_ GE101.out) | exact HB.out))⟩)
                             ·skip
                              refine Kd.S_make_step (Kd.slice 3 (Kd.int .i64)) _ 22 (by rfl) (N := 20) rfl 23 _ _ rfl (l0.length : Int) rfl rfl Try.underlying23 (.slice none 0 0) 24 info22 rfl (by decide) (by omega) [] (ok := fun _ => True) (okp := fun _ => True) ⟨_, rfl, Kd.R_nil _ _ _ _ _⟩ (fun _ hk => hk) trivial (of_decide_eq_true (by first | (with_reducible assumption) | assumption)) (Nat.le_trans (Nat.mul_le_mul_right _ (of_decide_eq_true (by first | (with_reducible assumption) | assumption) : (l0.length : Int).toNat ≤ 11728124029610)) (by omega)) (Below.refl _ _) (Nat.le_refl _) ?_
                              intro v111 w15 ho16 hb hg_ hnew_
                              clear hg_ hnew_
                              (first | rw [← Ny110.out] at ho16 | (simp only [Int.reduceToNat] at ho16; rw [← Ny110.out] at ho16))
                              have n0_ := sA (Kd.R_below (sR HO115.out) hb)
                              have n1_ := sA (Kd.S_lower (Kd.S_new' ho16 (Kd.R_lt (sR HO115.out))) (below_size (by repeat (first | (with_reducible first | exact HB.out | apply sLA | apply sLN | apply sLD | refine sLS ?_ GE101.out) | exact HB.out))))
                              have n2_ := sA (blk_below (sB BK101.out) hb)
                              have n3_ := sA (below_step (by repeat (first | (with_reducible first | exact HB.out | apply sLA | apply sLN | apply sLD | refine sLS ?_ GE101.out) | exact HB.out)) hb)
                              clear HO115
                              clear BK101
                              clear HB
                              have HO115 := n0_
                              have HO112 := n1_
                              have BK101 := n2_
                              have HB := n3_
                              clear n0_ n1_ n2_ n3_
                              clear hb ho16
                              refine hK.out _ _ trivial (fun hHeld => ?_)
                              clear hK K
                              refine norm_ (a' := ?_) ?_ ?_
                              rotate_left
                              ·show Act.put _ (some 20) _ = _
                               simp only [Act.put, sI, sZ, sV, i64_w, i32_w]
                               rfl
                              exact norm_ (by first | (simp only [putAll, Act.put, sI, sZ, sV]; done) | (simp only [putAll, Act.put, sI, sZ, sV]; rfl)) (hJ4_6 (v111, v114) _ ⟨(by (with_reducible repeat (first | apply Kd.S_alloc | apply Kd.S_drewN | apply Kd.S_drew)); exact Kd.S_mono HO112.out (fun _ hk => hk.2)), (sR HO115.out), (sB BK101.out), (by repeat (first | (with_reducible first | exact HB.out | apply sLA | apply sLN | apply sLD | refine sLS ?_ GE101.out) | exact HB.out))⟩)
                             ·skip
                              refine Kd.R_make_step (Kd.int .i64) _ 3 (by rfl) (N := 24) rfl 22 _ _ rfl (l0.length : Int) rfl rfl Try.underlying22 (.int .i64 0) 8 info3 rfl (by decide) (by omega) 0 (ok := fun _ => True) (okp := fun _ => True) rfl (fun _ hk => hk) trivial (of_decide_eq_true (by first | (with_reducible assumption) | assumption)) (Nat.le_trans (Nat.mul_le_mul_right _ (of_decide_eq_true (by first | (with_reducible assumption) | assumption) : (l0.length : Int).toNat ≤ 35184372088832)) (by omega)) (Below.refl _ _) (Nat.le_refl _) ?_
                              intro v117 w15 ho16 hb hg_ hnew_
                              clear hg_ hnew_
                              (first | rw [← Ny116.out] at ho16 | (simp only [Int.reduceToNat] at ho16; rw [← Ny116.out] at ho16))
                              have n0_ := sA (Kd.R_elder' (sR HO115.out) (Kd.R_base ho16) hb)
                              have n1_ := sA (Kd.R_lower (Kd.R_new' ho16 (Kd.R_lt (sR HO115.out))) (below_size (by repeat (first | (with_reducible first | exact HB.out | apply sLA | apply sLN | apply sLD | refine sLS ?_ GE101.out) | exact HB.out))))
                              have n2_ := sA (blk_below (sB BK101.out) hb)
                              have n3_ := sA (below_step (by repeat (first | (with_reducible first | exact HB.out | apply sLA | apply sLN | apply sLD | refine sLS ?_ GE101.out) | exact HB.out)) hb)
                              clear HO115
                              clear BK101
                              clear HB
                              have HO115 := n0_
                              have HO118 := n1_
                              have BK101 := n2_
                              have HB := n3_
                              clear n0_ n1_ n2_ n3_
                              clear hb ho16
                              refine hK.out _ _ trivial (fun hHeld => ?_)
                              clear hK K
                              refine norm_ (a' := ?_) ?_ ?_
                              rotate_left
                              ·show Act.put _ (some 24) _ = _
                               simp only [Act.put, sI, sZ, sV, i64_w, i32_w]
                               rfl
                              exact norm_ (by first | (simp only [putAll, Act.put, sI, sZ, sV]; done) | (simp only [putAll, Act.put, sI, sZ, sV]; rfl)) (hJ6_8 (v114, v117) _ ⟨(sR (Kd.R_mono HO115.out (fun _ hk => hk.2))), (sR (Kd.R_mono HO118.out (fun _ hk => hk.2))), (sB BK101.out), (by repeat (first | (with_reducible first | exact HB.out | apply sLA | apply sLN | apply sLD | refine sLS ?_ GE101.out) | exact HB.out))⟩)
                           ·skip
                            rintro v111 w14 ⟨h0_, h1_, h2_⟩
                            have n0_ : Aside0 (Kd.S (Kd.slice 3 (Kd.int .i64)) 22 w14 w.heap.size (fun _ => True) v111 y110) := ⟨h0_⟩
                            have n1_ : Aside0 (w14.heap[gb101]? = some (.cells #[.slice none 0 0, .slice none 0 0, .slice none 0 0, .slice none 0 0, .int .i64 0] 25 (0, 0))) := ⟨h1_⟩
                            have n2_ : Aside0 (Below w.heap.size w w14) := ⟨h2_⟩
                            clear BK101
                            clear HB
                            clear h0_ h1_ h2_
                            have HO112 := n0_
                            have BK101 := n1_
                            have HB := n2_
                            clear n0_ n1_ n2_
                            have hHeld := trivial
                            refine norm_ (a' := ?_) ?_ ?_
                            rotate_left
                            ·simp only [putAll, Act.put, sI, sZ, sV]
                             rfl
                            refine three_ (i := 0) (j := 6) (k := 8) (Ni := some 16) (Nj := some 22) (Nk := some 24) (sM 12 187) (sM 12 250) (sM 12 442) rfl rfl rfl rfl rfl rfl (three_of HT_.out (by kernel_rfl)) (by decide) (by decide) (by decide) (fun K hK => ?_) (fun K hK => ?_) (fun K hK => ?_)
                            ·skip
                             refine Kd.R_lit_step (Kd.int .i64) _ 3 ?hg (N := 16) ?hd (xs := ([] : List Int)) (inner := []) (ok := fun _ => True) (okp := fun _ => True) ?hr ?hp (fun _ hk => hk) trivial (Below.refl _ _) (Nat.le_refl _) (by simp) ?_; (case hd => rfl); (case hg => rfl); (case hr => first | (go_simp; done) | (go_simp; rfl)); (case hp => exact (Reps.none _ _))
                             intro v105 w15 ho16 hb hg_ hnew_
                             clear hg_ hnew_
                             (first | rw [← Ny104.out] at ho16 | (simp only [Int.reduceToNat] at ho16; rw [← Ny104.out] at ho16))
                             have n0_ := sA (Kd.S_elder' (by (with_reducible repeat (first | apply Kd.S_alloc | apply Kd.S_drewN | apply Kd.S_drew)); exact HO112.out) (Kd.R_base ho16) hb)
                             have n1_ := sA (Kd.R_lower ho16 (below_size (by repeat (first | (with_reducible first | exact HB.out | apply sLA | apply sLN | apply sLD | refine sLS ?_ GE101.out) | exact HB.out))))
                             have n2_ := sA (blk_below (sB BK101.out) hb)
                             have n3_ := sA (below_step (by repeat (first | (with_reducible first | exact HB.out | apply sLA | apply sLN | apply sLD | refine sLS ?_ GE101.out) | exact HB.out)) hb)
                             clear HO112
                             clear BK101
                             clear HB
                             have HO112 := n0_
                             have HO106 := n1_
                             have BK101 := n2_
                             have HB := n3_
                             clear n0_ n1_ n2_ n3_
                             clear hb ho16
                             refine hK.out _ _ trivial (fun hHeld => ?_)
                             clear hK K
                             refine norm_ (a' := ?_) ?_ ?_
                             rotate_left
                             ·show Act.put _ (some 16) _ = _
                              simp only [Act.put, sI, sZ, sV, i64_w, i32_w]
                              rfl
                             exact norm_ (by first | (simp only [putAll, Act.put, sI, sZ, sV]; done) | (simp only [putAll, Act.put, sI, sZ, sV]; rfl)) (hJ0_4 (v105, v111) _ ⟨(sR HO106.out), (by (with_reducible repeat (first | apply Kd.S_alloc | apply Kd.S_drewN | apply Kd.S_drew)); exact Kd.S_mono HO112.out (fun _ hk => hk.2)), (sB BK101.out), (by repeat (first | (with_reducible first | exact HB.out | apply sLA | apply sLN | apply sLD | refine sLS ?_ GE101.out) | exact HB.out))⟩)
                            ·skip
                             refine Kd.R_make_step (Kd.int .i64) _ 3 (by rfl) (N := 22) rfl 22 _ _ rfl (l0.length : Int) rfl rfl Try.underlying22 (.int .i64 0) 8 info3 rfl (by decide) (by omega) 0 (ok := fun _ => True) (okp := fun _ => True) rfl (fun _ hk => hk) trivial (of_decide_eq_true (by first | (with_reducible assumption) | assumption)) (Nat.le_trans (Nat.mul_le_mul_right _ (of_decide_eq_true (by first | (with_reducible assumption) | assumption) : (l0.length : Int).toNat ≤ 35184372088832)) (by omega)) (Below.refl _ _) (Nat.le_refl _) ?_
                             intro v114 w15 ho16 hb hg_ hnew_
                             clear hg_ hnew_
                             (first | rw [← Ny113.out] at ho16 | (simp only [Int.reduceToNat] at ho16; rw [← Ny113.out] at ho16))
                             have n0_ := sA (Kd.S_elder' (by (with_reducible repeat (first | apply Kd.S_alloc | apply Kd.S_drewN | apply Kd.S_drew)); exact HO112.out) (Kd.R_base ho16) hb)
                             have n1_ := sA (Kd.R_lower ho16 (below_size (by repeat (first | (with_reducible first | exact HB.out | apply sLA | apply sLN | apply sLD | refine sLS ?_ GE101.out) | exact HB.out))))
                             have n2_ := sA (blk_below (sB BK101.out) hb)
                             have n3_ := sA (below_step (by repeat (first | (with_reducible first | exact HB.out | apply sLA | apply sLN | apply sLD | refine sLS ?_ GE101.out) | exact HB.out)) hb)
                             clear HO112
                             clear BK101
                             clear HB
                             have HO112 := n0_
                             have HO115 := n1_
                             have BK101 := n2_
                             have HB := n3_
                             clear n0_ n1_ n2_ n3_
                             clear hb ho16
                             refine hK.out _ _ trivial (fun hHeld => ?_)
                             clear hK K
                             refine norm_ (a' := ?_) ?_ ?_
                             rotate_left
                             ·show Act.put _ (some 22) _ = _
                              simp only [Act.put, sI, sZ, sV, i64_w, i32_w]
                              rfl
                             exact norm_ (by first | (simp only [putAll, Act.put, sI, sZ, sV]; done) | (simp only [putAll, Act.put, sI, sZ, sV]; rfl)) (hJ4_6 (v111, v114) _ ⟨(by (with_reducible repeat (first | apply Kd.S_alloc | apply Kd.S_drewN | apply Kd.S_drew)); exact Kd.S_mono HO112.out (fun _ hk => hk.2)), (sR HO115.out), (sB BK101.out), (by repeat (first | (with_reducible first | exact HB.out | apply sLA | apply sLN | apply sLD | refine sLS ?_ GE101.out) | exact HB.out))⟩)
                            ·skip
                             refine Kd.R_make_step (Kd.int .i64) _ 3 (by rfl) (N := 24) rfl 22 _ _ rfl (l0.length : Int) rfl rfl Try.underlying22 (.int .i64 0) 8 info3 rfl (by decide) (by omega) 0 (ok := fun _ => True) (okp := fun _ => True) rfl (fun _ hk => hk) trivial (of_decide_eq_true (by first | (with_reducible assumption) | assumption)) (Nat.le_trans (Nat.mul_le_mul_right _ (of_decide_eq_true (by first | (with_reducible assumption) | assumption) : (l0.length : Int).toNat ≤ 35184372088832)) (by omega)) (Below.refl _ _) (Nat.le_refl _) ?_
                             intro v117 w15 ho16 hb hg_ hnew_
                             clear hg_ hnew_
                             (first | rw [← Ny116.out] at ho16 | (simp only [Int.reduceToNat] at ho16; rw [← Ny116.out] at ho16))
                             have n0_ := sA (Kd.S_elder' (by (with_reducible repeat (first | apply Kd.S_alloc | apply Kd.S_drewN | apply Kd.S_drew)); exact HO112.out) (Kd.R_base ho16) hb)
                             have n1_ := sA (Kd.R_lower ho16 (below_size (by repeat (first | (with_reducible first | exact HB.out | apply sLA | apply sLN | apply sLD | refine sLS ?_ GE101.out) | exact HB.out))))
                             have n2_ := sA (blk_below (sB BK101.out) hb)
                             have n3_ := sA (below_step (by repeat (first | (with_reducible first | exact HB.out | apply sLA | apply sLN | apply sLD | refine sLS ?_ GE101.out) | exact HB.out)) hb)
                             clear HO112
                             clear BK101
                             clear HB
                             have HO112 := n0_
                             have HO118 := n1_
                             have BK101 := n2_
                             have HB := n3_
                             clear n0_ n1_ n2_ n3_
                             clear hb ho16
                             refine hK.out _ _ trivial (fun hHeld => ?_)
                             clear hK K
                             refine norm_ (a' := ?_) ?_ ?_
                             rotate_left
                             ·show Act.put _ (some 24) _ = _
                              simp only [Act.put, sI, sZ, sV, i64_w, i32_w]
                              rfl
                             exact norm_ (by first | (simp only [putAll, Act.put, sI, sZ, sV]; done) | (simp only [putAll, Act.put, sI, sZ, sV]; rfl)) (hJ4_8 (v111, v117) _ ⟨(by (with_reducible repeat (first | apply Kd.S_alloc | apply Kd.S_drewN | apply Kd.S_drew)); exact Kd.S_mono HO112.out (fun _ hk => hk.2)), (sR HO118.out), (sB BK101.out), (by repeat (first | (with_reducible first | exact HB.out | apply sLA | apply sLN | apply sLD | refine sLS ?_ GE101.out) | exact HB.out))⟩)
                          ·skip
                           rintro v105 w14 ⟨h0_, h1_, h2_⟩
                           have n0_ : Aside0 (Kd.R (Kd.int .i64) 3 w14 w.heap.size (fun _ => True) v105 y104) := ⟨h0_⟩
                           have n1_ : Aside0 (w14.heap[gb101]? = some (.cells #[.slice none 0 0, .slice none 0 0, .slice none 0 0, .slice none 0 0, .int .i64 0] 25 (0, 0))) := ⟨h1_⟩
                           have n2_ : Aside0 (Below w.heap.size w w14) := ⟨h2_⟩
                           clear BK101
                           clear HB
                           clear h0_ h1_ h2_
                           have HO106 := n0_
                           have BK101 := n1_
                           have HB := n2_
                           clear n0_ n1_ n2_
                           have hHeld := trivial
                           refine norm_ (a' := ?_) ?_ ?_
                           rotate_left
                           ·simp only [putAll, Act.put, sI, sZ, sV]
                            rfl
                           refine four_ (i := 2) (j := 4) (k := 6) (m := 8) (Ni := some 18) (Nj := some 20) (Nk := some 22) (Nm := some 24) (sM 12 175) (sM 12 187) (sM 12 235) (sM 12 427) rfl rfl rfl rfl rfl rfl rfl rfl (four_of HT_.out (by kernel_rfl)) (by decide) (by decide) (by decide) (by decide) (fun K hK => ?_) (fun K hK => ?_) (fun K hK => ?_) (fun K hK => ?_)
                           ·skip
                            refine Kd.R_append_rows_step (Kd.int .i64) (w0 := w) w.heap.size (by rfl) (.tmp 16) (.tmp 17) 22 3 (.int .i64 0) 8 rfl Try.underlying22 info3 rfl (by decide) (by omega) v105 y104 l0 _ _ _ (fun _ => True) (fun _ => False) rfl rfl ?aO ?aR (fun _ _ h => h) (fun _ h => h.elim) ?aF ?aB ?aS ?aL ?_
                            (case aR => repeat (first | exact (Kd.C_below HR0.out HB.out) | (with_reducible refine Kd.C_alloc ?_ _) | (with_reducible refine Kd.C_drewN ?_ _) | (with_reducible refine Kd.C_drew ?_)))
                            (case aB => exact (by repeat (first | (with_reducible first | exact HB.out | apply sLA | apply sLN | apply sLD | refine sLS ?_ GE101.out) | exact HB.out)))
                            (case aF => exact (fun _ _ => trivial))
                            (case aO => exact (sR HO106.out))
                            (case aS => exact (below_size (by repeat (first | (with_reducible first | exact HB.out | apply sLA | apply sLN | apply sLD | refine sLS ?_ GE101.out) | exact HB.out))))
                            (case aL => have := LMc6.out; omega)
                            intro v108 w15 ho hb hg hat
                            rw [← Ny107.out] at ho
                            have n0_ := sA (blk_grown (g := gb101) (o := .cells #[.slice none 0 0, .slice none 0 0, .slice none 0 0, .slice none 0 0, .int .i64 0] 25 (0, 0)) (sB BK101.out) hg (Kd.R_ne HO106.out BK101.out (by decide)))
                            have n1_ := sA (hb)
                            have n2_ := sA (ho)
                            clear BK101
                            clear HB
                            clear HO106
                            have BK101 := n0_
                            have HB := n1_
                            have HO109 := n2_
                            clear n0_ n1_ n2_
                            clear ho hb hg hat
                            refine hK.out _ _ trivial (fun hHeld => ?_)
                            clear hK K
                            refine norm_ (a' := ?_) ?_ ?_
                            rotate_left
                            ·show Act.put _ (some 18) _ = _
                             simp only [Act.put, sI, sZ, sV, i64_w, i32_w]
                             rfl
                            exact norm_ (by first | (simp only [putAll, Act.put, sI, sZ, sV]; done) | (simp only [putAll, Act.put, sI, sZ, sV]; rfl)) (hJ0_2 (v105, v108) _ ⟨(sR HO109.out), (sB BK101.out), (by repeat (first | (with_reducible first | exact HB.out | apply sLA | apply sLN | apply sLD | refine sLS ?_ GE101.out) | exact HB.out))⟩)
                           ·skip
                            refine Kd.S_make_step (Kd.slice 3 (Kd.int .i64)) _ 22 (by rfl) (N := 20) rfl 23 _ _ rfl (l0.length : Int) rfl rfl Try.underlying23 (.slice none 0 0) 24 info22 rfl (by decide) (by omega) [] (ok := fun _ => True) (okp := fun _ => True) ⟨_, rfl, Kd.R_nil _ _ _ _ _⟩ (fun _ hk => hk) trivial (of_decide_eq_true (by first | (with_reducible assumption) | assumption)) (Nat.le_trans (Nat.mul_le_mul_right _ (of_decide_eq_true (by first | (with_reducible assumption) | assumption) : (l0.length : Int).toNat ≤ 11728124029610)) (by omega)) (Below.refl _ _) (Nat.le_refl _) ?_
                            intro v111 w15 ho16 hb hg_ hnew_
                            clear hg_ hnew_
                            (first | rw [← Ny110.out] at ho16 | (simp only [Int.reduceToNat] at ho16; rw [← Ny110.out] at ho16))
                            have n0_ := sA (Kd.R_below (sR HO106.out) hb)
                            have n1_ := sA (Kd.S_lower (Kd.S_new' ho16 (Kd.R_lt (sR HO106.out))) (below_size (by repeat (first | (with_reducible first | exact HB.out | apply sLA | apply sLN | apply sLD | refine sLS ?_ GE101.out) | exact HB.out))))
                            have n2_ := sA (blk_below (sB BK101.out) hb)
                            have n3_ := sA (below_step (by repeat (first | (with_reducible first | exact HB.out | apply sLA | apply sLN | apply sLD | refine sLS ?_ GE101.out) | exact HB.out)) hb)
                            clear HO106
                            clear BK101
                            clear HB
                            have HO106 := n0_
                            have HO112 := n1_
                            have BK101 := n2_
                            have HB := n3_
                            clear n0_ n1_ n2_ n3_
                            clear hb ho16
                            refine hK.out _ _ trivial (fun hHeld => ?_)
                            clear hK K
                            refine norm_ (a' := ?_) ?_ ?_
                            rotate_left
                            ·show Act.put _ (some 20) _ = _
                             simp only [Act.put, sI, sZ, sV, i64_w, i32_w]
                             rfl
                            exact norm_ (by first | (simp only [putAll, Act.put, sI, sZ, sV]; done) | (simp only [putAll, Act.put, sI, sZ, sV]; rfl)) (hJ0_4 (v105, v111) _ ⟨(sR HO106.out), (by (with_reducible repeat (first | apply Kd.S_alloc | apply Kd.S_drewN | apply Kd.S_drew)); exact Kd.S_mono HO112.out (fun _ hk => hk.2)), (sB BK101.out), (by repeat (first | (with_reducible first | exact HB.out | apply sLA | apply sLN | apply sLD | refine sLS ?_ GE101.out) | exact HB.out))⟩)
                           ·skip
                            refine Kd.R_make_step (Kd.int .i64) _ 3 (by rfl) (N := 22) rfl 22 _ _ rfl (l0.length : Int) rfl rfl Try.underlying22 (.int .i64 0) 8 info3 rfl (by decide) (by omega) 0 (ok := fun _ => True) (okp := fun _ => True) rfl (fun _ hk => hk) trivial (of_decide_eq_true (by first | (with_reducible assumption) | assumption)) (Nat.le_trans (Nat.mul_le_mul_right _ (of_decide_eq_true (by first | (with_reducible assumption) | assumption) : (l0.length : Int).toNat ≤ 35184372088832)) (by omega)) (Below.refl _ _) (Nat.le_refl _) ?_
                            intro v114 w15 ho16 hb hg_ hnew_
                            clear hg_ hnew_
                            (first | rw [← Ny113.out] at ho16 | (simp only [Int.reduceToNat] at ho16; rw [← Ny113.out] at ho16))
                            have n0_ := sA (Kd.R_elder' (sR HO106.out) (Kd.R_base ho16) hb)
                            have n1_ := sA (Kd.R_lower (Kd.R_new' ho16 (Kd.R_lt (sR HO106.out))) (below_size (by repeat (first | (with_reducible first | exact HB.out | apply sLA | apply sLN | apply sLD | refine sLS ?_ GE101.out) | exact HB.out))))
                            have n2_ := sA (blk_below (sB BK101.out) hb)
                            have n3_ := sA (below_step (by repeat (first | (with_reducible first | exact HB.out | apply sLA | apply sLN | apply sLD | refine sLS ?_ GE101.out) | exact HB.out)) hb)
                            clear HO106
                            clear BK101
                            clear HB
                            have HO106 := n0_
                            have HO115 := n1_
                            have BK101 := n2_
                            have HB := n3_
                            clear n0_ n1_ n2_ n3_
                            clear hb ho16
                            refine hK.out _ _ trivial (fun hHeld => ?_)
                            clear hK K
                            refine norm_ (a' := ?_) ?_ ?_
                            rotate_left
                            ·show Act.put _ (some 22) _ = _
                             simp only [Act.put, sI, sZ, sV, i64_w, i32_w]
                             rfl
                            exact norm_ (by first | (simp only [putAll, Act.put, sI, sZ, sV]; done) | (simp only [putAll, Act.put, sI, sZ, sV]; rfl)) (hJ0_6 (v105, v114) _ ⟨(sR (Kd.R_mono HO106.out (fun _ hk => hk.2))), (sR (Kd.R_mono HO115.out (fun _ hk => hk.2))), (sB BK101.out), (by repeat (first | (with_reducible first | exact HB.out | apply sLA | apply sLN | apply sLD | refine sLS ?_ GE101.out) | exact HB.out))⟩)
                           ·skip
                            refine Kd.R_make_step (Kd.int .i64) _ 3 (by rfl) (N := 24) rfl 22 _ _ rfl (l0.length : Int) rfl rfl Try.underlying22 (.int .i64 0) 8 info3 rfl (by decide) (by omega) 0 (ok := fun _ => True) (okp := fun _ => True) rfl (fun _ hk => hk) trivial (of_decide_eq_true (by first | (with_reducible assumption) | assumption)) (Nat.le_trans (Nat.mul_le_mul_right _ (of_decide_eq_true (by first | (with_reducible assumption) | assumption) : (l0.length : Int).toNat ≤ 35184372088832)) (by omega)) (Below.refl _ _) (Nat.le_refl _) ?_
                            intro v117 w15 ho16 hb hg_ hnew_
                            clear hg_ hnew_
                            (first | rw [← Ny116.out] at ho16 | (simp only [Int.reduceToNat] at ho16; rw [← Ny116.out] at ho16))
                            have n0_ := sA (Kd.R_elder' (sR HO106.out) (Kd.R_base ho16) hb)
                            have n1_ := sA (Kd.R_lower (Kd.R_new' ho16 (Kd.R_lt (sR HO106.out))) (below_size (by repeat (first | (with_reducible first | exact HB.out | apply sLA | apply sLN | apply sLD | refine sLS ?_ GE101.out) | exact HB.out))))
                            have n2_ := sA (blk_below (sB BK101.out) hb)
                            have n3_ := sA (below_step (by repeat (first | (with_reducible first | exact HB.out | apply sLA | apply sLN | apply sLD | refine sLS ?_ GE101.out) | exact HB.out)) hb)
                            clear HO106
                            clear BK101
                            clear HB
                            have HO106 := n0_
                            have HO118 := n1_
                            have BK101 := n2_
                            have HB := n3_
                            clear n0_ n1_ n2_ n3_
                            clear hb ho16
                            refine hK.out _ _ trivial (fun hHeld => ?_)
                            clear hK K
                            refine norm_ (a' := ?_) ?_ ?_
                            rotate_left
                            ·show Act.put _ (some 24) _ = _
                             simp only [Act.put, sI, sZ, sV, i64_w, i32_w]
                             rfl
                            exact norm_ (by first | (simp only [putAll, Act.put, sI, sZ, sV]; done) | (simp only [putAll, Act.put, sI, sZ, sV]; rfl)) (hJ0_8 (v105, v117) _ ⟨(sR (Kd.R_mono HO106.out (fun _ hk => hk.2))), (sR (Kd.R_mono HO118.out (fun _ hk => hk.2))), (sB BK101.out), (by repeat (first | (with_reducible first | exact HB.out | apply sLA | apply sLN | apply sLD | refine sLS ?_ GE101.out) | exact HB.out))⟩)
                         ·skip
                          rintro ⟨v114, v117⟩ w16 ⟨h0_, h1_, h2_, h3_⟩
                          have n0_ : Aside0 (Kd.R (Kd.int .i64) 3 w16 w.heap.size (fun k_ => some k_ ≠ (v117 : Value).ownBlock) v114 y113) := ⟨h0_⟩
                          have n1_ : Aside0 (Kd.R (Kd.int .i64) 3 w16 w.heap.size (fun k_ => some k_ ≠ (v114 : Value).ownBlock) v117 y116) := ⟨h1_⟩
                          have n2_ : Aside0 (w16.heap[gb101]? = some (.cells #[.slice none 0 0, .slice none 0 0, .slice none 0 0, .slice none 0 0, .int .i64 0] 25 (0, 0))) := ⟨h2_⟩
                          have n3_ : Aside0 (Below w.heap.size w w16) := ⟨h3_⟩
                          clear BK101
                          clear HB
                          clear h0_ h1_ h2_ h3_
                          have HO115 := n0_
                          have HO118 := n1_
                          have BK101 := n2_
                          have HB := n3_
                          clear n0_ n1_ n2_ n3_
                          have hHeld := trivial
                          refine norm_ (a' := ?_) ?_ ?_
                          rotate_left
                          ·simp only [putAll, Act.put, sI, sZ, sV]
                           rfl
                          refine two_ (i := 0) (j := 4) (Ni := some 16) (Nj := some 20) (sM 12 491) (sM 12 506) rfl rfl rfl rfl (two_of HT_.out (by kernel_rfl)) (by decide) (by decide) (fun K hK => ?_) (fun K hK => ?_)
                          ·skip
                           refine Kd.R_lit_step (Kd.int .i64) _ 3 ?hg (N := 16) ?hd (xs := ([] : List Int)) (inner := []) (ok := fun _ => True) (okp := fun _ => True) ?hr ?hp (fun _ hk => hk) trivial (Below.refl _ _) (Nat.le_refl _) (by simp) ?_; (case hd => rfl); (case hg => rfl); (case hr => first | (go_simp; done) | (go_simp; rfl)); (case hp => exact (Reps.none _ _))
                           intro v105 w17 ho18 hb hg_ hnew_
                           clear hg_ hnew_
                           (first | rw [← Ny104.out] at ho18 | (simp only [Int.reduceToNat] at ho18; rw [← Ny104.out] at ho18))
                           have n0_ := sA (Kd.R_elder' (sR HO115.out) (Kd.R_base ho18) hb)
                           have n1_ := sA (Kd.R_elder' (sR HO118.out) (Kd.R_base ho18) hb)
                           have n2_ := sA (Kd.R_lower (Kd.R_new' (Kd.R_new' ho18 (Kd.R_lt (sR HO115.out))) (Kd.R_lt (sR HO118.out))) (below_size (by repeat (first | (with_reducible first | exact HB.out | apply sLA | apply sLN | apply sLD | refine sLS ?_ GE101.out) | exact HB.out))))
                           have n3_ := sA (blk_below (sB BK101.out) hb)
                           have n4_ := sA (below_step (by repeat (first | (with_reducible first | exact HB.out | apply sLA | apply sLN | apply sLD | refine sLS ?_ GE101.out) | exact HB.out)) hb)
                           clear HO115
                           clear HO118
                           clear BK101
                           clear HB
                           have HO115 := n0_
                           have HO118 := n1_
                           have HO106 := n2_
                           have BK101 := n3_
                           have HB := n4_
                           clear n0_ n1_ n2_ n3_ n4_
                           clear hb ho18
                           refine hK.out _ _ trivial (fun hHeld => ?_)
                           clear hK K
                           refine norm_ (a' := ?_) ?_ ?_
                           rotate_left
                           ·show Act.put _ (some 16) _ = _
                            simp only [Act.put, sI, sZ, sV, i64_w, i32_w]
                            rfl
                           exact norm_ (by first | (simp only [putAll, Act.put, sI, sZ, sV]; done) | (simp only [putAll, Act.put, sI, sZ, sV]; rfl)) (hJ0_6_8 (v105, v114, v117) _ ⟨(sR (Kd.R_mono HO106.out (fun _ hk => ⟨hk.1.2, hk.2⟩))), (sR (Kd.R_mono HO115.out (fun _ hk => ⟨hk.2, hk.1⟩))), (sR (Kd.R_mono HO118.out (fun _ hk => ⟨hk.2, hk.1⟩))), (sB BK101.out), (by repeat (first | (with_reducible first | exact HB.out | apply sLA | apply sLN | apply sLD | refine sLS ?_ GE101.out) | exact HB.out))⟩)
                          ·skip
                           refine Kd.S_make_step (Kd.slice 3 (Kd.int .i64)) _ 22 (by rfl) (N := 20) rfl 23 _ _ rfl (l0.length : Int) rfl rfl Try.underlying23 (.slice none 0 0) 24 info22 rfl (by decide) (by omega) [] (ok := fun _ => True) (okp := fun _ => True) ⟨_, rfl, Kd.R_nil _ _ _ _ _⟩ (fun _ hk => hk) trivial (of_decide_eq_true (by first | (with_reducible assumption) | assumption)) (Nat.le_trans (Nat.mul_le_mul_right _ (of_decide_eq_true (by first | (with_reducible assumption) | assumption) : (l0.length : Int).toNat ≤ 11728124029610)) (by omega)) (Below.refl _ _) (Nat.le_refl _) ?_
                           intro v111 w17 ho18 hb hg_ hnew_
                           clear hg_ hnew_
                           (first | rw [← Ny110.out] at ho18 | (simp only [Int.reduceToNat] at ho18; rw [← Ny110.out] at ho18))
                           have n0_ := sA (Kd.R_below (sR HO115.out) hb)
                           have n1_ := sA (Kd.R_below (sR HO118.out) hb)
                           have n2_ := sA (Kd.S_lower (Kd.S_new' (Kd.S_new' ho18 (Kd.R_lt (sR HO115.out))) (Kd.R_lt (sR HO118.out))) (below_size (by repeat (first | (with_reducible first | exact HB.out | apply sLA | apply sLN | apply sLD | refine sLS ?_ GE101.out) | exact HB.out))))
                           have n3_ := sA (blk_below (sB BK101.out) hb)
                           have n4_ := sA (below_step (by repeat (first | (with_reducible first | exact HB.out | apply sLA | apply sLN | apply sLD | refine sLS ?_ GE101.out) | exact HB.out)) hb)
                           clear HO115
                           clear HO118
                           clear BK101
                           clear HB
                           have HO115 := n0_
                           have HO118 := n1_
                           have HO112 := n2_
                           have BK101 := n3_
                           have HB := n4_
                           clear n0_ n1_ n2_ n3_ n4_
                           clear hb ho18
                           refine hK.out _ _ trivial (fun hHeld => ?_)
                           clear hK K
                           refine norm_ (a' := ?_) ?_ ?_
                           rotate_left
                           ·show Act.put _ (some 20) _ = _
                            simp only [Act.put, sI, sZ, sV, i64_w, i32_w]
                            rfl
                           exact norm_ (by first | (simp only [putAll, Act.put, sI, sZ, sV]; done) | (simp only [putAll, Act.put, sI, sZ, sV]; rfl)) (hJ4_6_8 (v111, v114, v117) _ ⟨(by (with_reducible repeat (first | apply Kd.S_alloc | apply Kd.S_drewN | apply Kd.S_drew)); exact Kd.S_mono HO112.out (fun _ hk => ⟨hk.1.2, hk.2⟩)), (sR HO115.out), (sR HO118.out), (sB BK101.out), (by repeat (first | (with_reducible first | exact HB.out | apply sLA | apply sLN | apply sLD | refine sLS ?_ GE101.out) | exact HB.out))⟩)
                        ·skip
                         rintro ⟨v111, v117⟩ w16 ⟨h0_, h1_, h2_, h3_⟩
                         have n0_ : Aside0 (Kd.S (Kd.slice 3 (Kd.int .i64)) 22 w16 w.heap.size (fun k_ => some k_ ≠ (v117 : Value).ownBlock) v111 y110) := ⟨h0_⟩
                         have n1_ : Aside0 (Kd.R (Kd.int .i64) 3 w16 w.heap.size (fun _ => True) v117 y116) := ⟨h1_⟩
                         have n2_ : Aside0 (w16.heap[gb101]? = some (.cells #[.slice none 0 0, .slice none 0 0, .slice none 0 0, .slice none 0 0, .int .i64 0] 25 (0, 0))) := ⟨h2_⟩
                         have n3_ : Aside0 (Below w.heap.size w w16) := ⟨h3_⟩
                         clear BK101
                         clear HB
                         clear h0_ h1_ h2_ h3_
                         have HO112 := n0_
                         have HO118 := n1_
                         have BK101 := n2_
                         have HB := n3_
                         clear n0_ n1_ n2_ n3_
                         have hHeld := trivial
                         refine norm_ (a' := ?_) ?_ ?_
                         rotate_left
                         ·simp only [putAll, Act.put, sI, sZ, sV]
                          rfl
                         refine two_ (i := 0) (j := 6) (Ni := some 16) (Nj := some 22) (sM 12 443) (sM 12 506) rfl rfl rfl rfl (two_of HT_.out (by kernel_rfl)) (by decide) (by decide) (fun K hK => ?_) (fun K hK => ?_)
                         ·skip
                          refine Kd.R_lit_step (Kd.int .i64) _ 3 ?hg (N := 16) ?hd (xs := ([] : List Int)) (inner := []) (ok := fun _ => True) (okp := fun _ => True) ?hr ?hp (fun _ hk => hk) trivial (Below.refl _ _) (Nat.le_refl _) (by simp) ?_; (case hd => rfl); (case hg => rfl); (case hr => first | (go_simp; done) | (go_simp; rfl)); (case hp => exact (Reps.none _ _))
                          intro v105 w17 ho18 hb hg_ hnew_
                          clear hg_ hnew_
                          (first | rw [← Ny104.out] at ho18 | (simp only [Int.reduceToNat] at ho18; rw [← Ny104.out] at ho18))
                          have n0_ := sA (Kd.S_elder' (by (with_reducible repeat (first | apply Kd.S_alloc | apply Kd.S_drewN | apply Kd.S_drew)); exact HO112.out) (Kd.R_base ho18) hb)
                          have n1_ := sA (Kd.R_elder' (sR HO118.out) (Kd.R_base ho18) hb)
                          have n2_ := sA (Kd.R_lower (Kd.R_new' ho18 (Kd.R_lt (sR HO118.out))) (below_size (by repeat (first | (with_reducible first | exact HB.out | apply sLA | apply sLN | apply sLD | refine sLS ?_ GE101.out) | exact HB.out))))
                          have n3_ := sA (blk_below (sB BK101.out) hb)
                          have n4_ := sA (below_step (by repeat (first | (with_reducible first | exact HB.out | apply sLA | apply sLN | apply sLD | refine sLS ?_ GE101.out) | exact HB.out)) hb)
                          clear HO112
                          clear HO118
                          clear BK101
                          clear HB
                          have HO112 := n0_
                          have HO118 := n1_
                          have HO106 := n2_
                          have BK101 := n3_
                          have HB := n4_
                          clear n0_ n1_ n2_ n3_ n4_
                          clear hb ho18
                          refine hK.out _ _ trivial (fun hHeld => ?_)
                          clear hK K
                          refine norm_ (a' := ?_) ?_ ?_
                          rotate_left
                          ·show Act.put _ (some 16) _ = _
                           simp only [Act.put, sI, sZ, sV, i64_w, i32_w]
                           rfl
                          exact norm_ (by first | (simp only [putAll, Act.put, sI, sZ, sV]; done) | (simp only [putAll, Act.put, sI, sZ, sV]; rfl)) (hJ0_4_8 (v105, v111, v117) _ ⟨(sR (Kd.R_mono HO106.out (fun _ hk => hk.2))), (by (with_reducible repeat (first | apply Kd.S_alloc | apply Kd.S_drewN | apply Kd.S_drew)); exact Kd.S_mono HO112.out (fun _ hk => ⟨hk.2, hk.1⟩)), (sR (Kd.R_mono HO118.out (fun _ hk => hk.2))), (sB BK101.out), (by repeat (first | (with_reducible first | exact HB.out | apply sLA | apply sLN | apply sLD | refine sLS ?_ GE101.out) | exact HB.out))⟩)
                         ·skip
                          refine Kd.R_make_step (Kd.int .i64) _ 3 (by rfl) (N := 22) rfl 22 _ _ rfl (l0.length : Int) rfl rfl Try.underlying22 (.int .i64 0) 8 info3 rfl (by decide) (by omega) 0 (ok := fun _ => True) (okp := fun _ => True) rfl (fun _ hk => hk) trivial (of_decide_eq_true (by first | (with_reducible assumption) | assumption)) (Nat.le_trans (Nat.mul_le_mul_right _ (of_decide_eq_true (by first | (with_reducible assumption) | assumption) : (l0.length : Int).toNat ≤ 35184372088832)) (by omega)) (Below.refl _ _) (Nat.le_refl _) ?_
                          intro v114 w17 ho18 hb hg_ hnew_
                          clear hg_ hnew_
                          (first | rw [← Ny113.out] at ho18 | (simp only [Int.reduceToNat] at ho18; rw [← Ny113.out] at ho18))
                          have n0_ := sA (Kd.S_elder' (by (with_reducible repeat (first | apply Kd.S_alloc | apply Kd.S_drewN | apply Kd.S_drew)); exact HO112.out) (Kd.R_base ho18) hb)
                          have n1_ := sA (Kd.R_elder' (sR HO118.out) (Kd.R_base ho18) hb)
                          have n2_ := sA (Kd.R_lower (Kd.R_new' ho18 (Kd.R_lt (sR HO118.out))) (below_size (by repeat (first | (with_reducible first | exact HB.out | apply sLA | apply sLN | apply sLD | refine sLS ?_ GE101.out) | exact HB.out))))
                          have n3_ := sA (blk_below (sB BK101.out) hb)
                          have n4_ := sA (below_step (by repeat (first | (with_reducible first | exact HB.out | apply sLA | apply sLN | apply sLD | refine sLS ?_ GE101.out) | exact HB.out)) hb)
                          clear HO112
                          clear HO118
                          clear BK101
                          clear HB
                          have HO112 := n0_
                          have HO118 := n1_
                          have HO115 := n2_
                          have BK101 := n3_
                          have HB := n4_
                          clear n0_ n1_ n2_ n3_ n4_
                          clear hb ho18
                          refine hK.out _ _ trivial (fun hHeld => ?_)
                          clear hK K
                          refine norm_ (a' := ?_) ?_ ?_
                          rotate_left
                          ·show Act.put _ (some 22) _ = _
                           simp only [Act.put, sI, sZ, sV, i64_w, i32_w]
                           rfl
                          exact norm_ (by first | (simp only [putAll, Act.put, sI, sZ, sV]; done) | (simp only [putAll, Act.put, sI, sZ, sV]; rfl)) (hJ4_6_8 (v111, v114, v117) _ ⟨(by (with_reducible repeat (first | apply Kd.S_alloc | apply Kd.S_drewN | apply Kd.S_drew)); exact Kd.S_mono HO112.out (fun _ hk => ⟨hk.2, hk.1⟩)), (sR (Kd.R_mono HO115.out (fun _ hk => hk.2))), (sR (Kd.R_mono HO118.out (fun _ hk => hk.2))), (sB BK101.out), (by repeat (first | (with_reducible first | exact HB.out | apply sLA | apply sLN | apply sLD | refine sLS ?_ GE101.out) | exact HB.out))⟩)
                       ·skip
                        rintro ⟨v111, v114⟩ w16 ⟨h0_, h1_, h2_, h3_⟩
                        have n0_ : Aside0 (Kd.S (Kd.slice 3 (Kd.int .i64)) 22 w16 w.heap.size (fun k_ => some k_ ≠ (v114 : Value).ownBlock) v111 y110) := ⟨h0_⟩
                        have n1_ : Aside0 (Kd.R (Kd.int .i64) 3 w16 w.heap.size (fun _ => True) v114 y113) := ⟨h1_⟩
                        have n2_ : Aside0 (w16.heap[gb101]? = some (.cells #[.slice none 0 0, .slice none 0 0, .slice none 0 0, .slice none 0 0, .int .i64 0] 25 (0, 0))) := ⟨h2_⟩
                        have n3_ : Aside0 (Below w.heap.size w w16) := ⟨h3_⟩
                        clear BK101
                        clear HB
                        clear h0_ h1_ h2_ h3_
                        have HO112 := n0_
                        have HO115 := n1_
                        have BK101 := n2_
                        have HB := n3_
                        clear n0_ n1_ n2_ n3_
                        have hHeld := trivial
                        refine norm_ (a' := ?_) ?_ ?_
                        rotate_left
                        ·simp only [putAll, Act.put, sI, sZ, sV]
                         rfl
                        refine two_ (i := 0) (j := 8) (Ni := some 16) (Nj := some 24) (sM 12 251) (sM 12 506) rfl rfl rfl rfl (two_of HT_.out (by kernel_rfl)) (by decide) (by decide) (fun K hK => ?_) (fun K hK => ?_)
                        ·skip
                         refine Kd.R_lit_step (Kd.int .i64) _ 3 ?hg (N := 16) ?hd (xs := ([] : List Int)) (inner := []) (ok := fun _ => True) (okp := fun _ => True) ?hr ?hp (fun _ hk => hk) trivial (Below.refl _ _) (Nat.le_refl _) (by simp) ?_; (case hd => rfl); (case hg => rfl); (case hr => first | (go_simp; done) | (go_simp; rfl)); (case hp => exact (Reps.none _ _))
                         intro v105 w17 ho18 hb hg_ hnew_
                         clear hg_ hnew_
                         (first | rw [← Ny104.out] at ho18 | (simp only [Int.reduceToNat] at ho18; rw [← Ny104.out] at ho18))
                         have n0_ := sA (Kd.S_elder' (by (with_reducible repeat (first | apply Kd.S_alloc | apply Kd.S_drewN | apply Kd.S_drew)); exact HO112.out) (Kd.R_base ho18) hb)
                         have n1_ := sA (Kd.R_elder' (sR HO115.out) (Kd.R_base ho18) hb)
                         have n2_ := sA (Kd.R_lower (Kd.R_new' ho18 (Kd.R_lt (sR HO115.out))) (below_size (by repeat (first | (with_reducible first | exact HB.out | apply sLA | apply sLN | apply sLD | refine sLS ?_ GE101.out) | exact HB.out))))
                         have n3_ := sA (blk_below (sB BK101.out) hb)
                         have n4_ := sA (below_step (by repeat (first | (with_reducible first | exact HB.out | apply sLA | apply sLN | apply sLD | refine sLS ?_ GE101.out) | exact HB.out)) hb)
                         clear HO112
                         clear HO115
                         clear BK101
                         clear HB
                         have HO112 := n0_
                         have HO115 := n1_
                         have HO106 := n2_
                         have BK101 := n3_
                         have HB := n4_
                         clear n0_ n1_ n2_ n3_ n4_
                         clear hb ho18
                         refine hK.out _ _ trivial (fun hHeld => ?_)
                         clear hK K
                         refine norm_ (a' := ?_) ?_ ?_
                         rotate_left
                         ·show Act.put _ (some 16) _ = _
                          simp only [Act.put, sI, sZ, sV, i64_w, i32_w]
                          rfl
                         exact norm_ (by first | (simp only [putAll, Act.put, sI, sZ, sV]; done) | (simp only [putAll, Act.put, sI, sZ, sV]; rfl)) (hJ0_4_6 (v105, v111, v114) _ ⟨(sR (Kd.R_mono HO106.out (fun _ hk => hk.2))), (by (with_reducible repeat (first | apply Kd.S_alloc | apply Kd.S_drewN | apply Kd.S_drew)); exact Kd.S_mono HO112.out (fun _ hk => ⟨hk.2, hk.1⟩)), (sR (Kd.R_mono HO115.out (fun _ hk => hk.2))), (sB BK101.out), (by repeat (first | (with_reducible first | exact HB.out | apply sLA | apply sLN | apply sLD | refine sLS ?_ GE101.out) | exact HB.out))⟩)
                        ·skip
                         refine Kd.R_make_step (Kd.int .i64) _ 3 (by rfl) (N := 24) rfl 22 _ _ rfl (l0.length : Int) rfl rfl Try.underlying22 (.int .i64 0) 8 info3 rfl (by decide) (by omega) 0 (ok := fun _ => True) (okp := fun _ => True) rfl (fun _ hk => hk) trivial (of_decide_eq_true (by first | (with_reducible assumption) | assumption)) (Nat.le_trans (Nat.mul_le_mul_right _ (of_decide_eq_true (by first | (with_reducible assumption) | assumption) : (l0.length : Int).toNat ≤ 35184372088832)) (by omega)) (Below.refl _ _) (Nat.le_refl _) ?_
                         intro v117 w17 ho18 hb hg_ hnew_
                         clear hg_ hnew_
                         (first | rw [← Ny116.out] at ho18 | (simp only [Int.reduceToNat] at ho18; rw [← Ny116.out] at ho18))
                         have n0_ := sA (Kd.S_elder' (by (with_reducible repeat (first | apply Kd.S_alloc | apply Kd.S_drewN | apply Kd.S_drew)); exact HO112.out) (Kd.R_base ho18) hb)
                         have n1_ := sA (Kd.R_elder' (sR HO115.out) (Kd.R_base ho18) hb)
                         have n2_ := sA (Kd.R_lower (Kd.R_new' ho18 (Kd.R_lt (sR HO115.out))) (below_size (by repeat (first | (with_reducible first | exact HB.out | apply sLA | apply sLN | apply sLD | refine sLS ?_ GE101.out) | exact HB.out))))
                         have n3_ := sA (blk_below (sB BK101.out) hb)
                         have n4_ := sA (below_step (by repeat (first | (with_reducible first | exact HB.out | apply sLA | apply sLN | apply sLD | refine sLS ?_ GE101.out) | exact HB.out)) hb)
                         clear HO112
                         clear HO115
                         clear BK101
                         clear HB
                         have HO112 := n0_
                         have HO115 := n1_
                         have HO118 := n2_
                         have BK101 := n3_
                         have HB := n4_
                         clear n0_ n1_ n2_ n3_ n4_
                         clear hb ho18
                         refine hK.out _ _ trivial (fun hHeld => ?_)
                         clear hK K
                         refine norm_ (a' := ?_) ?_ ?_
                         rotate_left
                         ·show Act.put _ (some 24) _ = _
                          simp only [Act.put, sI, sZ, sV, i64_w, i32_w]
                          rfl
                         exact norm_ (by first | (simp only [putAll, Act.put, sI, sZ, sV]; done) | (simp only [putAll, Act.put, sI, sZ, sV]; rfl)) (hJ4_6_8 (v111, v114, v117) _ ⟨(by (with_reducible repeat (first | apply Kd.S_alloc | apply Kd.S_drewN | apply Kd.S_drew)); exact HO112.out), (sR (Kd.R_mono HO115.out (fun _ hk => hk.2))), (sR (Kd.R_mono HO118.out (fun _ hk => hk.2))), (sB BK101.out), (by repeat (first | (with_reducible first | exact HB.out | apply sLA | apply sLN | apply sLD | refine sLS ?_ GE101.out) | exact HB.out))⟩)
                      ·skip
                       rintro ⟨v105, v117⟩ w16 ⟨h0_, h1_, h2_, h3_⟩
                       have n0_ : Aside0 (Kd.R (Kd.int .i64) 3 w16 w.heap.size (fun k_ => some k_ ≠ (v117 : Value).ownBlock) v105 y104) := ⟨h0_⟩
                       have n1_ : Aside0 (Kd.R (Kd.int .i64) 3 w16 w.heap.size (fun k_ => some k_ ≠ (v105 : Value).ownBlock) v117 y116) := ⟨h1_⟩
                       have n2_ : Aside0 (w16.heap[gb101]? = some (.cells #[.slice none 0 0, .slice none 0 0, .slice none 0 0, .slice none 0 0, .int .i64 0] 25 (0, 0))) := ⟨h2_⟩
                       have n3_ : Aside0 (Below w.heap.size w w16) := ⟨h3_⟩
                       clear BK101
                       clear HB
                       clear h0_ h1_ h2_ h3_
                       have HO106 := n0_
                       have HO118 := n1_
                       have BK101 := n2_
                       have HB := n3_
                       clear n0_ n1_ n2_ n3_
                       have hHeld := trivial
                       refine norm_ (a' := ?_) ?_ ?_
                       rotate_left
                       ·simp only [putAll, Act.put, sI, sZ, sV]
                        rfl
                       refine three_ (i := 2) (j := 4) (k := 6) (Ni := some 18) (Nj := some 20) (Nk := some 22) (sM 12 431) (sM 12 443) (sM 12 491) rfl rfl rfl rfl rfl rfl (three_of HT_.out (by kernel_rfl)) (by decide) (by decide) (by decide) (fun K hK => ?_) (fun K hK => ?_) (fun K hK => ?_)
                       ·skip
                        refine Kd.R_append_rows_step (Kd.int .i64) (w0 := w) w.heap.size (by rfl) (.tmp 16) (.tmp 17) 22 3 (.int .i64 0) 8 rfl Try.underlying22 info3 rfl (by decide) (by omega) v105 y104 l0 _ _ _ (fun k_ => some k_ ≠ (v117 : Value).ownBlock) (fun _ => False) rfl rfl ?aO ?aR (fun _ _ h => h) (fun _ h => h.elim) ?aF ?aB ?aS ?aL ?_
                        (case aR => repeat (first | exact (Kd.C_below HR0.out HB.out) | (with_reducible refine Kd.C_alloc ?_ _) | (with_reducible refine Kd.C_drewN ?_ _) | (with_reducible refine Kd.C_drew ?_)))
                        (case aB => exact (by repeat (first | (with_reducible first | exact HB.out | apply sLA | apply sLN | apply sLD | refine sLS ?_ GE101.out) | exact HB.out)))
                        (case aF => exact (fun k_ hk => Kd.fresh' (Kd.R_lt (sR HO118.out)) k_ hk))
                        (case aO => exact (sR HO106.out))
                        (case aS => exact (below_size (by repeat (first | (with_reducible first | exact HB.out | apply sLA | apply sLN | apply sLD | refine sLS ?_ GE101.out) | exact HB.out))))
                        (case aL => have := LMc6.out; omega)
                        intro v108 w17 ho hb hg hat
                        rw [← Ny107.out] at ho
                        have n0_ := sA (blk_grown (g := gb101) (o := .cells #[.slice none 0 0, .slice none 0 0, .slice none 0 0, .slice none 0 0, .int .i64 0] 25 (0, 0)) (sB BK101.out) hg (Kd.R_ne HO106.out BK101.out (by decide)))
                        have n1_ := sA (Kd.R_after (ok := (fun _ => True)) (sR (Kd.R_mono HO118.out (fun _ hk => ⟨trivial, hk⟩))) hg hat)
                        have n2_ := sA (hb)
                        have n3_ := sA (ho)
                        clear BK101
                        clear HO118
                        clear HB
                        clear HO106
                        have BK101 := n0_
                        have HO118 := n1_
                        have HB := n2_
                        have HO109 := n3_
                        clear n0_ n1_ n2_ n3_
                        clear ho hb hg hat
                        refine hK.out _ _ trivial (fun hHeld => ?_)
                        clear hK K
                        refine norm_ (a' := ?_) ?_ ?_
                        rotate_left
                        ·show Act.put _ (some 18) _ = _
                         simp only [Act.put, sI, sZ, sV, i64_w, i32_w]
                         rfl
                        exact norm_ (by first | (simp only [putAll, Act.put, sI, sZ, sV]; done) | (simp only [putAll, Act.put, sI, sZ, sV]; rfl)) (hJ0_2_8 (v105, v108, v117) _ ⟨(sR HO109.out), (sR (Kd.R_mono HO118.out (fun _ hk => hk.2))), (sB BK101.out), (by repeat (first | (with_reducible first | exact HB.out | apply sLA | apply sLN | apply sLD | refine sLS ?_ GE101.out) | exact HB.out))⟩)
                       ·skip
                        refine Kd.S_make_step (Kd.slice 3 (Kd.int .i64)) _ 22 (by rfl) (N := 20) rfl 23 _ _ rfl (l0.length : Int) rfl rfl Try.underlying23 (.slice none 0 0) 24 info22 rfl (by decide) (by omega) [] (ok := fun _ => True) (okp := fun _ => True) ⟨_, rfl, Kd.R_nil _ _ _ _ _⟩ (fun _ hk => hk) trivial (of_decide_eq_true (by first | (with_reducible assumption) | assumption)) (Nat.le_trans (Nat.mul_le_mul_right _ (of_decide_eq_true (by first | (with_reducible assumption) | assumption) : (l0.length : Int).toNat ≤ 11728124029610)) (by omega)) (Below.refl _ _) (Nat.le_refl _) ?_
                        intro v111 w17 ho18 hb hg_ hnew_
                        clear hg_ hnew_
                        (first | rw [← Ny110.out] at ho18 | (simp only [Int.reduceToNat] at ho18; rw [← Ny110.out] at ho18))
                        have n0_ := sA (Kd.R_below (sR HO106.out) hb)
                        have n1_ := sA (Kd.R_below (sR HO118.out) hb)
                        have n2_ := sA (Kd.S_lower (Kd.S_new' (Kd.S_new' ho18 (Kd.R_lt (sR HO106.out))) (Kd.R_lt (sR HO118.out))) (below_size (by repeat (first | (with_reducible first | exact HB.out | apply sLA | apply sLN | apply sLD | refine sLS ?_ GE101.out) | exact HB.out))))
                        have n3_ := sA (blk_below (sB BK101.out) hb)
                        have n4_ := sA (below_step (by repeat (first | (with_reducible first | exact HB.out | apply sLA | apply sLN | apply sLD | refine sLS ?_ GE101.out) | exact HB.out)) hb)
                        clear HO106
                        clear HO118
                        clear BK101
                        clear HB
                        have HO106 := n0_
                        have HO118 := n1_
                        have HO112 := n2_
                        have BK101 := n3_
                        have HB := n4_
                        clear n0_ n1_ n2_ n3_ n4_
                        clear hb ho18
                        refine hK.out _ _ trivial (fun hHeld => ?_)
                        clear hK K
                        refine norm_ (a' := ?_) ?_ ?_
                        rotate_left
                        ·show Act.put _ (some 20) _ = _
                         simp only [Act.put, sI, sZ, sV, i64_w, i32_w]
                         rfl
                        exact norm_ (by first | (simp only [putAll, Act.put, sI, sZ, sV]; done) | (simp only [putAll, Act.put, sI, sZ, sV]; rfl)) (hJ0_4_8 (v105, v111, v117) _ ⟨(sR HO106.out), (by (with_reducible repeat (first | apply Kd.S_alloc | apply Kd.S_drewN | apply Kd.S_drew)); exact Kd.S_mono HO112.out (fun _ hk => ⟨hk.1.2, hk.2⟩)), (sR HO118.out), (sB BK101.out), (by repeat (first | (with_reducible first | exact HB.out | apply sLA | apply sLN | apply sLD | refine sLS ?_ GE101.out) | exact HB.out))⟩)
                       ·skip
                        refine Kd.R_make_step (Kd.int .i64) _ 3 (by rfl) (N := 22) rfl 22 _ _ rfl (l0.length : Int) rfl rfl Try.underlying22 (.int .i64 0) 8 info3 rfl (by decide) (by omega) 0 (ok := fun _ => True) (okp := fun _ => True) rfl (fun _ hk => hk) trivial (of_decide_eq_true (by first | (with_reducible assumption) | assumption)) (Nat.le_trans (Nat.mul_le_mul_right _ (of_decide_eq_true (by first | (with_reducible assumption) | assumption) : (l0.length : Int).toNat ≤ 35184372088832)) (by omega)) (Below.refl _ _) (Nat.le_refl _) ?_
                        intro v114 w17 ho18 hb hg_ hnew_
                        clear hg_ hnew_
                        (first | rw [← Ny113.out] at ho18 | (simp only [Int.reduceToNat] at ho18; rw [← Ny113.out] at ho18))
                        have n0_ := sA (Kd.R_elder' (sR HO106.out) (Kd.R_base ho18) hb)
                        have n1_ := sA (Kd.R_elder' (sR HO118.out) (Kd.R_base ho18) hb)
                        have n2_ := sA (Kd.R_lower (Kd.R_new' (Kd.R_new' ho18 (Kd.R_lt (sR HO106.out))) (Kd.R_lt (sR HO118.out))) (below_size (by repeat (first | (with_reducible first | exact HB.out | apply sLA | apply sLN | apply sLD | refine sLS ?_ GE101.out) | exact HB.out))))
                        have n3_ := sA (blk_below (sB BK101.out) hb)
                        have n4_ := sA (below_step (by repeat (first | (with_reducible first | exact HB.out | apply sLA | apply sLN | apply sLD | refine sLS ?_ GE101.out) | exact HB.out)) hb)
                        clear HO106
                        clear HO118
                        clear BK101
                        clear HB
                        have HO106 := n0_
                        have HO118 := n1_
                        have HO115 := n2_
                        have BK101 := n3_
                        have HB := n4_
                        clear n0_ n1_ n2_ n3_ n4_
                        clear hb ho18
                        refine hK.out _ _ trivial (fun hHeld => ?_)
                        clear hK K
                        refine norm_ (a' := ?_) ?_ ?_
                        rotate_left
                        ·show Act.put _ (some 22) _ = _
                         simp only [Act.put, sI, sZ, sV, i64_w, i32_w]
                         rfl
                        exact norm_ (by first | (simp only [putAll, Act.put, sI, sZ, sV]; done) | (simp only [putAll, Act.put, sI, sZ, sV]; rfl)) (hJ0_6_8 (v105, v114, v117) _ ⟨(sR (Kd.R_mono HO106.out (fun _ hk => ⟨hk.2, hk.1⟩))), (sR (Kd.R_mono HO115.out (fun _ hk => ⟨hk.1.2, hk.2⟩))), (sR HO118.out), (sB BK101.out), (by repeat (first | (with_reducible first | exact HB.out | apply sLA | apply sLN | apply sLD | refine sLS ?_ GE101.out) | exact HB.out))⟩)
                     ·skip
                      rintro ⟨v105, v114⟩ w16 ⟨h0_, h1_, h2_, h3_⟩
                      have n0_ : Aside0 (Kd.R (Kd.int .i64) 3 w16 w.heap.size (fun k_ => some k_ ≠ (v114 : Value).ownBlock) v105 y104) := ⟨h0_⟩
                      have n1_ : Aside0 (Kd.R (Kd.int .i64) 3 w16 w.heap.size (fun k_ => some k_ ≠ (v105 : Value).ownBlock) v114 y113) := ⟨h1_⟩
                      have n2_ : Aside0 (w16.heap[gb101]? = some (.cells #[.slice none 0 0, .slice none 0 0, .slice none 0 0, .slice none 0 0, .int .i64 0] 25 (0, 0))) := ⟨h2_⟩
                      have n3_ : Aside0 (Below w.heap.size w w16) := ⟨h3_⟩
                      clear BK101
                      clear HB
                      clear h0_ h1_ h2_ h3_
                      have HO106 := n0_
                      have HO115 := n1_
                      have BK101 := n2_
                      have HB := n3_
                      clear n0_ n1_ n2_ n3_
                      have hHeld := trivial
                      refine norm_ (a' := ?_) ?_ ?_
                      rotate_left
                      ·simp only [putAll, Act.put, sI, sZ, sV]
                       rfl
                      refine three_ (i := 2) (j := 4) (k := 8) (Ni := some 18) (Nj := some 20) (Nk := some 24) (sM 12 239) (sM 12 251) (sM 12 491) rfl rfl rfl rfl rfl rfl (three_of HT_.out (by kernel_rfl)) (by decide) (by decide) (by decide) (fun K hK => ?_) (fun K hK => ?_) (fun K hK => ?_)
                      ·skip
                       refine Kd.R_append_rows_step (Kd.int .i64) (w0 := w) w.heap.size (by rfl) (.tmp 16) (.tmp 17) 22 3 (.int .i64 0) 8 rfl Try.underlying22 info3 rfl (by decide) (by omega) v105 y104 l0 _ _ _ (fun k_ => some k_ ≠ (v114 : Value).ownBlock) (fun _ => False) rfl rfl ?aO ?aR (fun _ _ h => h) (fun _ h => h.elim) ?aF ?aB ?aS ?aL ?_
                       (case aR => repeat (first | exact (Kd.C_below HR0.out HB.out) | (with_reducible refine Kd.C_alloc ?_ _) | (with_reducible refine Kd.C_drewN ?_ _) | (with_reducible refine Kd.C_drew ?_)))
                       (case aB => exact (by repeat (first | (with_reducible first | exact HB.out | apply sLA | apply sLN | apply sLD | refine sLS ?_ GE101.out) | exact HB.out)))
                       (case aF => exact (fun k_ hk => Kd.fresh' (Kd.R_lt (sR HO115.out)) k_ hk))
                       (case aO => exact (sR HO106.out))
                       (case aS => exact (below_size (by repeat (first | (with_reducible first | exact HB.out | apply sLA | apply sLN | apply sLD | refine sLS ?_ GE101.out) | exact HB.out))))
                       (case aL => have := LMc6.out; omega)
                       intro v108 w17 ho hb hg hat
                       rw [← Ny107.out] at ho
                       have n0_ := sA (blk_grown (g := gb101) (o := .cells #[.slice none 0 0, .slice none 0 0, .slice none 0 0, .slice none 0 0, .int .i64 0] 25 (0, 0)) (sB BK101.out) hg (Kd.R_ne HO106.out BK101.out (by decide)))
                       have n1_ := sA (Kd.R_after (ok := (fun _ => True)) (sR (Kd.R_mono HO115.out (fun _ hk => ⟨trivial, hk⟩))) hg hat)
                       have n2_ := sA (hb)
                       have n3_ := sA (ho)
                       clear BK101
                       clear HO115
                       clear HB
                       clear HO106
                       have BK101 := n0_
                       have HO115 := n1_
                       have HB := n2_
                       have HO109 := n3_
                       clear n0_ n1_ n2_ n3_
                       clear ho hb hg hat
                       refine hK.out _ _ trivial (fun hHeld => ?_)
                       clear hK K
                       refine norm_ (a' := ?_) ?_ ?_
                       rotate_left
                       ·show Act.put _ (some 18) _ = _
                        simp only [Act.put, sI, sZ, sV, i64_w, i32_w]
                        rfl
                       exact norm_ (by first | (simp only [putAll, Act.put, sI, sZ, sV]; done) | (simp only [putAll, Act.put, sI, sZ, sV]; rfl)) (hJ0_2_6 (v105, v108, v114) _ ⟨(sR HO109.out), (sR (Kd.R_mono HO115.out (fun _ hk => hk.2))), (sB BK101.out), (by repeat (first | (with_reducible first | exact HB.out | apply sLA | apply sLN | apply sLD | refine sLS ?_ GE101.out) | exact HB.out))⟩)
                      ·skip
                       refine Kd.S_make_step (Kd.slice 3 (Kd.int .i64)) _ 22 (by rfl) (N := 20) rfl 23 _ _ rfl (l0.length : Int) rfl rfl Try.underlying23 (.slice none 0 0) 24 info22 rfl (by decide) (by omega) [] (ok := fun _ => True) (okp := fun _ => True) ⟨_, rfl, Kd.R_nil _ _ _ _ _⟩ (fun _ hk => hk) trivial (of_decide_eq_true (by first | (with_reducible assumption) | assumption)) (Nat.le_trans (Nat.mul_le_mul_right _ (of_decide_eq_true (by first | (with_reducible assumption) | assumption) : (l0.length : Int).toNat ≤ 11728124029610)) (by omega)) (Below.refl _ _) (Nat.le_refl _) ?_
                       intro v111 w17 ho18 hb hg_ hnew_
                       clear hg_ hnew_
                       (first | rw [← Ny110.out] at ho18 | (simp only [Int.reduceToNat] at ho18; rw [← Ny110.out] at ho18))
                       have n0_ := sA (Kd.R_below (sR HO106.out) hb)
                       have n1_ := sA (Kd.R_below (sR HO115.out) hb)
                       have n2_ := sA (Kd.S_lower (Kd.S_new' (Kd.S_new' ho18 (Kd.R_lt (sR HO106.out))) (Kd.R_lt (sR HO115.out))) (below_size (by repeat (first | (with_reducible first | exact HB.out | apply sLA | apply sLN | apply sLD | refine sLS ?_ GE101.out) | exact HB.out))))
                       have n3_ := sA (blk_below (sB BK101.out) hb)
                       have n4_ := sA (below_step (by repeat (first | (with_reducible first | exact HB.out | apply sLA | apply sLN | apply sLD | refine sLS ?_ GE101.out) | exact HB.out)) hb)
                       clear HO106
                       clear HO115
                       clear BK101
                       clear HB
                       have HO106 := n0_
                       have HO115 := n1_
                       have HO112 := n2_
                       have BK101 := n3_
                       have HB := n4_
                       clear n0_ n1_ n2_ n3_ n4_
                       clear hb ho18
                       refine hK.out _ _ trivial (fun hHeld => ?_)
                       clear hK K
                       refine norm_ (a' := ?_) ?_ ?_
                       rotate_left
                       ·show Act.put _ (some 20) _ = _
                        simp only [Act.put, sI, sZ, sV, i64_w, i32_w]
                        rfl
                       exact norm_ (by first | (simp only [putAll, Act.put, sI, sZ, sV]; done) | (simp only [putAll, Act.put, sI, sZ, sV]; rfl)) (hJ0_4_6 (v105, v111, v114) _ ⟨(sR HO106.out), (by (with_reducible repeat (first | apply Kd.S_alloc | apply Kd.S_drewN | apply Kd.S_drew)); exact Kd.S_mono HO112.out (fun _ hk => ⟨hk.1.2, hk.2⟩)), (sR HO115.out), (sB BK101.out), (by repeat (first | (with_reducible first | exact HB.out | apply sLA | apply sLN | apply sLD | refine sLS ?_ GE101.out) | exact HB.out))⟩)
                      ·skip
                       refine Kd.R_make_step (Kd.int .i64) _ 3 (by rfl) (N := 24) rfl 22 _ _ rfl (l0.length : Int) rfl rfl Try.underlying22 (.int .i64 0) 8 info3 rfl (by decide) (by omega) 0 (ok := fun _ => True) (okp := fun _ => True) rfl (fun _ hk => hk) trivial (of_decide_eq_true (by first | (with_reducible assumption) | assumption)) (Nat.le_trans (Nat.mul_le_mul_right _ (of_decide_eq_true (by first | (with_reducible assumption) | assumption) : (l0.length : Int).toNat ≤ 35184372088832)) (by omega)) (Below.refl _ _) (Nat.le_refl _) ?_
                       intro v117 w17 ho18 hb hg_ hnew_
                       clear hg_ hnew_
                       (first | rw [← Ny116.out] at ho18 | (simp only [Int.reduceToNat] at ho18; rw [← Ny116.out] at ho18))
                       have n0_ := sA (Kd.R_elder' (sR HO106.out) (Kd.R_base ho18) hb)
                       have n1_ := sA (Kd.R_elder' (sR HO115.out) (Kd.R_base ho18) hb)
                       have n2_ := sA (Kd.R_lower (Kd.R_new' (Kd.R_new' ho18 (Kd.R_lt (sR HO106.out))) (Kd.R_lt (sR HO115.out))) (below_size (by repeat (first | (with_reducible first | exact HB.out | apply sLA | apply sLN | apply sLD | refine sLS ?_ GE101.out) | exact HB.out))))
                       have n3_ := sA (blk_below (sB BK101.out) hb)
                       have n4_ := sA (below_step (by repeat (first | (with_reducible first | exact HB.out | apply sLA | apply sLN | apply sLD | refine sLS ?_ GE101.out) | exact HB.out)) hb)
                       clear HO106
                       clear HO115
                       clear BK101
                       clear HB
                       have HO106 := n0_
                       have HO115 := n1_
                       have HO118 := n2_
                       have BK101 := n3_
                       have HB := n4_
                       clear n0_ n1_ n2_ n3_ n4_
                       clear hb ho18
                       refine hK.out _ _ trivial (fun hHeld => ?_)
                       clear hK K
                       refine norm_ (a' := ?_) ?_ ?_
                       rotate_left
                       ·show Act.put _ (some 24) _ = _
                        simp only [Act.put, sI, sZ, sV, i64_w, i32_w]
                        rfl
                       exact norm_ (by first | (simp only [putAll, Act.put, sI, sZ, sV]; done) | (simp only [putAll, Act.put, sI, sZ, sV]; rfl)) (hJ0_6_8 (v105, v114, v117) _ ⟨(sR HO106.out), (sR HO115.out), (sR (Kd.R_mono HO118.out (fun _ hk => ⟨hk.1.2, hk.2⟩))), (sB BK101.out), (by repeat (first | (with_reducible first | exact HB.out | apply sLA | apply sLN | apply sLD | refine sLS ?_ GE101.out) | exact HB.out))⟩)
                    ·skip
                     rintro ⟨v105, v111⟩ w16 ⟨h0_, h1_, h2_, h3_⟩
                     have n0_ : Aside0 (Kd.R (Kd.int .i64) 3 w16 w.heap.size (fun _ => True) v105 y104) := ⟨h0_⟩
                     have n1_ : Aside0 (Kd.S (Kd.slice 3 (Kd.int .i64)) 22 w16 w.heap.size (fun k_ => some k_ ≠ (v105 : Value).ownBlock) v111 y110) := ⟨h1_⟩
                     have n2_ : Aside0 (w16.heap[gb101]? = some (.cells #[.slice none 0 0, .slice none 0 0, .slice none 0 0, .slice none 0 0, .int .i64 0] 25 (0, 0))) := ⟨h2_⟩
                     have n3_ : Aside0 (Below w.heap.size w w16) := ⟨h3_⟩
                     clear BK101
                     clear HB
                     clear h0_ h1_ h2_ h3_
                     have HO106 := n0_
                     have HO112 := n1_
                     have BK101 := n2_
                     have HB := n3_
                     clear n0_ n1_ n2_ n3_
                     have hHeld := trivial
                     refine norm_ (a' := ?_) ?_ ?_
                     rotate_left
                     ·simp only [putAll, Act.put, sI, sZ, sV]
                      rfl
                     refine three_ (i := 2) (j := 6) (k := 8) (Ni := some 18) (Nj := some 22) (Nk := some 24) (sM 12 191) (sM 12 251) (sM 12 443) rfl rfl rfl rfl rfl rfl (three_of HT_.out (by kernel_rfl)) (by decide) (by decide) (by decide) (fun K hK => ?_) (fun K hK => ?_) (fun K hK => ?_)
                     ·skip
                      refine Kd.R_append_rows_step (Kd.int .i64) (w0 := w) w.heap.size (by rfl) (.tmp 16) (.tmp 17) 22 3 (.int .i64 0) 8 rfl Try.underlying22 info3 rfl (by decide) (by omega) v105 y104 l0 _ _ _ (fun _ => True) (fun _ => False) rfl rfl ?aO ?aR (fun _ _ h => h) (fun _ h => h.elim) ?aF ?aB ?aS ?aL ?_
                      (case aR => repeat (first | exact (Kd.C_below HR0.out HB.out) | (with_reducible refine Kd.C_alloc ?_ _) | (with_reducible refine Kd.C_drewN ?_ _) | (with_reducible refine Kd.C_drew ?_)))
                      (case aB => exact (by repeat (first | (with_reducible first | exact HB.out | apply sLA | apply sLN | apply sLD | refine sLS ?_ GE101.out) | exact HB.out)))
                      (case aF => exact (fun _ _ => trivial))
                      (case aO => exact (sR HO106.out))
                      (case aS => exact (below_size (by repeat (first | (with_reducible first | exact HB.out | apply sLA | apply sLN | apply sLD | refine sLS ?_ GE101.out) | exact HB.out))))
                      (case aL => have := LMc6.out; omega)
                      intro v108 w17 ho hb hg hat
                      rw [← Ny107.out] at ho
                      have n0_ := sA (blk_grown (g := gb101) (o := .cells #[.slice none 0 0, .slice none 0 0, .slice none 0 0, .slice none 0 0, .int .i64 0] 25 (0, 0)) (sB BK101.out) hg (Kd.R_ne HO106.out BK101.out (by decide)))
                      have n1_ := sA (Kd.S_after (ok := (fun _ => True)) (by (with_reducible repeat (first | apply Kd.S_alloc | apply Kd.S_drewN | apply Kd.S_drew)); exact Kd.S_mono HO112.out (fun _ hk => ⟨trivial, hk⟩)) hg hat)
                      have n2_ := sA (hb)
                      have n3_ := sA (ho)
                      clear BK101
                      clear HO112
                      clear HB
                      clear HO106
                      have BK101 := n0_
                      have HO112 := n1_
                      have HB := n2_
                      have HO109 := n3_
                      clear n0_ n1_ n2_ n3_
                      clear ho hb hg hat
                      refine hK.out _ _ trivial (fun hHeld => ?_)
                      clear hK K
                      refine norm_ (a' := ?_) ?_ ?_
                      rotate_left
                      ·show Act.put _ (some 18) _ = _
                       simp only [Act.put, sI, sZ, sV, i64_w, i32_w]
                       rfl
                      exact norm_ (by first | (simp only [putAll, Act.put, sI, sZ, sV]; done) | (simp only [putAll, Act.put, sI, sZ, sV]; rfl)) (hJ0_2_4 (v105, v108, v111) _ ⟨(sR HO109.out), (by (with_reducible repeat (first | apply Kd.S_alloc | apply Kd.S_drewN | apply Kd.S_drew)); exact Kd.S_mono HO112.out (fun _ hk => hk.2)), (sB BK101.out), (by repeat (first | (with_reducible first | exact HB.out | apply sLA | apply sLN | apply sLD | refine sLS ?_ GE101.out) | exact HB.out))⟩)
                     ·skip
                      refine Kd.R_make_step (Kd.int .i64) _ 3 (by rfl) (N := 22) rfl 22 _ _ rfl (l0.length : Int) rfl rfl Try.underlying22 (.int .i64 0) 8 info3 rfl (by decide) (by omega) 0 (ok := fun _ => True) (okp := fun _ => True) rfl (fun _ hk => hk) trivial (of_decide_eq_true (by first | (with_reducible assumption) | assumption)) (Nat.le_trans (Nat.mul_le_mul_right _ (of_decide_eq_true (by first | (with_reducible assumption) | assumption) : (l0.length : Int).toNat ≤ 35184372088832)) (by omega)) (Below.refl _ _) (Nat.le_refl _) ?_
                      intro v114 w17 ho18 hb hg_ hnew_
                      clear hg_ hnew_
                      (first | rw [← Ny113.out] at ho18 | (simp only [Int.reduceToNat] at ho18; rw [← Ny113.out] at ho18))
                      have n0_ := sA (Kd.R_elder' (sR HO106.out) (Kd.R_base ho18) hb)
                      have n1_ := sA (Kd.S_elder' (by (with_reducible repeat (first | apply Kd.S_alloc | apply Kd.S_drewN | apply Kd.S_drew)); exact HO112.out) (Kd.R_base ho18) hb)
                      have n2_ := sA (Kd.R_lower (Kd.R_new' ho18 (Kd.R_lt (sR HO106.out))) (below_size (by repeat (first | (with_reducible first | exact HB.out | apply sLA | apply sLN | apply sLD | refine sLS ?_ GE101.out) | exact HB.out))))
                      have n3_ := sA (blk_below (sB BK101.out) hb)
                      have n4_ := sA (below_step (by repeat (first | (with_reducible first | exact HB.out | apply sLA | apply sLN | apply sLD | refine sLS ?_ GE101.out) | exact HB.out)) hb)
                      clear HO106
                      clear HO112
                      clear BK101
                      clear HB
                      have HO106 := n0_
                      have HO112 := n1_
                      have HO115 := n2_
                      have BK101 := n3_
                      have HB := n4_
                      clear n0_ n1_ n2_ n3_ n4_
                      clear hb ho18
                      refine hK.out _ _ trivial (fun hHeld => ?_)
                      clear hK K
                      refine norm_ (a' := ?_) ?_ ?_
                      rotate_left
                      ·show Act.put _ (some 22) _ = _
                       simp only [Act.put, sI, sZ, sV, i64_w, i32_w]
                       rfl
                      exact norm_ (by first | (simp only [putAll, Act.put, sI, sZ, sV]; done) | (simp only [putAll, Act.put, sI, sZ, sV]; rfl)) (hJ0_4_6 (v105, v111, v114) _ ⟨(sR (Kd.R_mono HO106.out (fun _ hk => hk.2))), (by (with_reducible repeat (first | apply Kd.S_alloc | apply Kd.S_drewN | apply Kd.S_drew)); exact HO112.out), (sR (Kd.R_mono HO115.out (fun _ hk => hk.2))), (sB BK101.out), (by repeat (first | (with_reducible first | exact HB.out | apply sLA | apply sLN | apply sLD | refine sLS ?_ GE101.out) | exact HB.out))⟩)
                     ·skip
                      refine Kd.R_make_step (Kd.int .i64) _ 3 (by rfl) (N := 24) rfl 22 _ _ rfl (l0.length : Int) rfl rfl Try.underlying22 (.int .i64 0) 8 info3 rfl (by decide) (by omega) 0 (ok := fun _ => True) (okp := fun _ => True) rfl (fun _ hk => hk) trivial (of_decide_eq_true (by first | (with_reducible assumption) | assumption)) (Nat.le_trans (Nat.mul_le_mul_right _ (of_decide_eq_true (by first | (with_reducible assumption) | assumption) : (l0.length : Int).toNat ≤ 35184372088832)) (by omega)) (Below.refl _ _) (Nat.le_refl _) ?_
                      intro v117 w17 ho18 hb hg_ hnew_
                      clear hg_ hnew_
                      (first | rw [← Ny116.out] at ho18 | (simp only [Int.reduceToNat] at ho18; rw [← Ny116.out] at ho18))
                      have n0_ := sA (Kd.R_elder' (sR HO106.out) (Kd.R_base ho18) hb)
                      have n1_ := sA (Kd.S_elder' (by (with_reducible repeat (first | apply Kd.S_alloc | apply Kd.S_drewN | apply Kd.S_drew)); exact HO112.out) (Kd.R_base ho18) hb)
                      have n2_ := sA (Kd.R_lower (Kd.R_new' ho18 (Kd.R_lt (sR HO106.out))) (below_size (by repeat (first | (with_reducible first | exact HB.out | apply sLA | apply sLN | apply sLD | refine sLS ?_ GE101.out) | exact HB.out))))
                      have n3_ := sA (blk_below (sB BK101.out) hb)
                      have n4_ := sA (below_step (by repeat (first | (with_reducible first | exact HB.out | apply sLA | apply sLN | apply sLD | refine sLS ?_ GE101.out) | exact HB.out)) hb)
                      clear HO106
                      clear HO112
                      clear BK101
                      clear HB
                      have HO106 := n0_
                      have HO112 := n1_
                      have HO118 := n2_
                      have BK101 := n3_
                      have HB := n4_
                      clear n0_ n1_ n2_ n3_ n4_
                      clear hb ho18
                      refine hK.out _ _ trivial (fun hHeld => ?_)
                      clear hK K
                      refine norm_ (a' := ?_) ?_ ?_
                      rotate_left
                      ·show Act.put _ (some 24) _ = _
                       simp only [Act.put, sI, sZ, sV, i64_w, i32_w]
                       rfl
                      exact norm_ (by first | (simp only [putAll, Act.put, sI, sZ, sV]; done) | (simp only [putAll, Act.put, sI, sZ, sV]; rfl)) (hJ0_4_8 (v105, v111, v117) _ ⟨(sR (Kd.R_mono HO106.out (fun _ hk => hk.2))), (by (with_reducible repeat (first | apply Kd.S_alloc | apply Kd.S_drewN | apply Kd.S_drew)); exact HO112.out), (sR (Kd.R_mono HO118.out (fun _ hk => hk.2))), (sB BK101.out), (by repeat (first | (with_reducible first | exact HB.out | apply sLA | apply sLN | apply sLD | refine sLS ?_ GE101.out) | exact HB.out))⟩)
                   ·skip
                    rintro ⟨v105, v108⟩ w15 ⟨h0_, h1_, h2_⟩
                    have n0_ : Aside0 (Kd.R (Kd.int .i64) 3 w15 w.heap.size (fun _ => True) v108 y107) := ⟨h0_⟩
                    have n1_ : Aside0 (w15.heap[gb101]? = some (.cells #[.slice none 0 0, .slice none 0 0, .slice none 0 0, .slice none 0 0, .int .i64 0] 25 (0, 0))) := ⟨h1_⟩
                    have n2_ : Aside0 (Below w.heap.size w w15) := ⟨h2_⟩
                    clear BK101
                    clear HB
                    clear h0_ h1_ h2_
                    have HO109 := n0_
                    have BK101 := n1_
                    have HB := n2_
                    clear n0_ n1_ n2_
                    have hHeld := trivial
                    refine norm_ (a' := ?_) ?_ ?_
                    rotate_left
                    ·simp only [putAll, Act.put, sI, sZ, sV]
                     rfl
                    refine three_ (i := 4) (j := 6) (k := 8) (Ni := some 20) (Nj := some 22) (Nk := some 24) (sM 12 191) (sM 12 239) (sM 12 431) rfl rfl rfl rfl rfl rfl (three_of HT_.out (by kernel_rfl)) (by decide) (by decide) (by decide) (fun K hK => ?_) (fun K hK => ?_) (fun K hK => ?_)
                    ·skip
                     refine Kd.S_make_step (Kd.slice 3 (Kd.int .i64)) _ 22 (by rfl) (N := 20) rfl 23 _ _ rfl (l0.length : Int) rfl rfl Try.underlying23 (.slice none 0 0) 24 info22 rfl (by decide) (by omega) [] (ok := fun _ => True) (okp := fun _ => True) ⟨_, rfl, Kd.R_nil _ _ _ _ _⟩ (fun _ hk => hk) trivial (of_decide_eq_true (by first | (with_reducible assumption) | assumption)) (Nat.le_trans (Nat.mul_le_mul_right _ (of_decide_eq_true (by first | (with_reducible assumption) | assumption) : (l0.length : Int).toNat ≤ 11728124029610)) (by omega)) (Below.refl _ _) (Nat.le_refl _) ?_
                     intro v111 w16 ho17 hb hg_ hnew_
                     clear hg_ hnew_
                     (first | rw [← Ny110.out] at ho17 | (simp only [Int.reduceToNat] at ho17; rw [← Ny110.out] at ho17))
                     have n0_ := sA (Kd.R_below (sR HO109.out) hb)
                     have n1_ := sA (Kd.S_lower (Kd.S_new' ho17 (Kd.R_lt (sR HO109.out))) (below_size (by repeat (first | (with_reducible first | exact HB.out | apply sLA | apply sLN | apply sLD | refine sLS ?_ GE101.out) | exact HB.out))))
                     have n2_ := sA (blk_below (sB BK101.out) hb)
                     have n3_ := sA (below_step (by repeat (first | (with_reducible first | exact HB.out | apply sLA | apply sLN | apply sLD | refine sLS ?_ GE101.out) | exact HB.out)) hb)
                     clear HO109
                     clear BK101
                     clear HB
                     have HO109 := n0_
                     have HO112 := n1_
                     have BK101 := n2_
                     have HB := n3_
                     clear n0_ n1_ n2_ n3_
                     clear hb ho17
                     refine hK.out _ _ trivial (fun hHeld => ?_)
                     clear hK K
                     refine norm_ (a' := ?_) ?_ ?_
                     rotate_left
                     ·show Act.put _ (some 20) _ = _
                      simp only [Act.put, sI, sZ, sV, i64_w, i32_w]
                      rfl
                     exact norm_ (by first | (simp only [putAll, Act.put, sI, sZ, sV]; done) | (simp only [putAll, Act.put, sI, sZ, sV]; rfl)) (hJ0_2_4 (v105, v108, v111) _ ⟨(sR HO109.out), (by (with_reducible repeat (first | apply Kd.S_alloc | apply Kd.S_drewN | apply Kd.S_drew)); exact Kd.S_mono HO112.out (fun _ hk => hk.2)), (sB BK101.out), (by repeat (first | (with_reducible first | exact HB.out | apply sLA | apply sLN | apply sLD | refine sLS ?_ GE101.out) | exact HB.out))⟩)
                    ·skip
                     refine Kd.R_make_step (Kd.int .i64) _ 3 (by rfl) (N := 22) rfl 22 _ _ rfl (l0.length : Int) rfl rfl Try.underlying22 (.int .i64 0) 8 info3 rfl (by decide) (by omega) 0 (ok := fun _ => True) (okp := fun _ => True) rfl (fun _ hk => hk) trivial (of_decide_eq_true (by first | (with_reducible assumption) | assumption)) (Nat.le_trans (Nat.mul_le_mul_right _ (of_decide_eq_true (by first | (with_reducible assumption) | assumption) : (l0.length : Int).toNat ≤ 35184372088832)) (by omega)) (Below.refl _ _) (Nat.le_refl _) ?_
                     intro v114 w16 ho17 hb hg_ hnew_
                     clear hg_ hnew_
                     (first | rw [← Ny113.out] at ho17 | (simp only [Int.reduceToNat] at ho17; rw [← Ny113.out] at ho17))
                     have n0_ := sA (Kd.R_elder' (sR HO109.out) (Kd.R_base ho17) hb)
                     have n1_ := sA (Kd.R_lower (Kd.R_new' ho17 (Kd.R_lt (sR HO109.out))) (below_size (by repeat (first | (with_reducible first | exact HB.out | apply sLA | apply sLN | apply sLD | refine sLS ?_ GE101.out) | exact HB.out))))
                     have n2_ := sA (blk_below (sB BK101.out) hb)
                     have n3_ := sA (below_step (by repeat (first | (with_reducible first | exact HB.out | apply sLA | apply sLN | apply sLD | refine sLS ?_ GE101.out) | exact HB.out)) hb)
                     clear HO109
                     clear BK101
                     clear HB
                     have HO109 := n0_
                     have HO115 := n1_
                     have BK101 := n2_
                     have HB := n3_
                     clear n0_ n1_ n2_ n3_
                     clear hb ho17
                     refine hK.out _ _ trivial (fun hHeld => ?_)
                     clear hK K
                     refine norm_ (a' := ?_) ?_ ?_
                     rotate_left
                     ·show Act.put _ (some 22) _ = _
                      simp only [Act.put, sI, sZ, sV, i64_w, i32_w]
                      rfl
                     exact norm_ (by first | (simp only [putAll, Act.put, sI, sZ, sV]; done) | (simp only [putAll, Act.put, sI, sZ, sV]; rfl)) (hJ0_2_6 (v105, v108, v114) _ ⟨(sR (Kd.R_mono HO109.out (fun _ hk => hk.2))), (sR (Kd.R_mono HO115.out (fun _ hk => hk.2))), (sB BK101.out), (by repeat (first | (with_reducible first | exact HB.out | apply sLA | apply sLN | apply sLD | refine sLS ?_ GE101.out) | exact HB.out))⟩)
                    ·skip
                     refine Kd.R_make_step (Kd.int .i64) _ 3 (by rfl) (N := 24) rfl 22 _ _ rfl (l0.length : Int) rfl rfl Try.underlying22 (.int .i64 0) 8 info3 rfl (by decide) (by omega) 0 (ok := fun _ => True) (okp := fun _ => True) rfl (fun _ hk => hk) trivial (of_decide_eq_true (by first | (with_reducible assumption) | assumption)) (Nat.le_trans (Nat.mul_le_mul_right _ (of_decide_eq_true (by first | (with_reducible assumption) | assumption) : (l0.length : Int).toNat ≤ 35184372088832)) (by omega)) (Below.refl _ _) (Nat.le_refl _) ?_
                     intro v117 w16 ho17 hb hg_ hnew_
                     clear hg_ hnew_
                     (first | rw [← Ny116.out] at ho17 | (simp only [Int.reduceToNat] at ho17; rw [← Ny116.out] at ho17))
                     have n0_ := sA (Kd.R_elder' (sR HO109.out) (Kd.R_base ho17) hb)
                     have n1_ := sA (Kd.R_lower (Kd.R_new' ho17 (Kd.R_lt (sR HO109.out))) (below_size (by repeat (first | (with_reducible first | exact HB.out | apply sLA | apply sLN | apply sLD | refine sLS ?_ GE101.out) | exact HB.out))))
                     have n2_ := sA (blk_below (sB BK101.out) hb)
                     have n3_ := sA (below_step (by repeat (first | (with_reducible first | exact HB.out | apply sLA | apply sLN | apply sLD | refine sLS ?_ GE101.out) | exact HB.out)) hb)
                     clear HO109
                     clear BK101
                     clear HB
                     have HO109 := n0_
                     have HO118 := n1_
                     have BK101 := n2_
                     have HB := n3_
                     clear n0_ n1_ n2_ n3_
                     clear hb ho17
                     refine hK.out _ _ trivial (fun hHeld => ?_)
                     clear hK K
                     refine norm_ (a' := ?_) ?_ ?_
                     rotate_left
                     ·show Act.put _ (some 24) _ = _
                      simp only [Act.put, sI, sZ, sV, i64_w, i32_w]
                      rfl
                     exact norm_ (by first | (simp only [putAll, Act.put, sI, sZ, sV]; done) | (simp only [putAll, Act.put, sI, sZ, sV]; rfl)) (hJ0_2_8 (v105, v108, v117) _ ⟨(sR (Kd.R_mono HO109.out (fun _ hk => hk.2))), (sR (Kd.R_mono HO118.out (fun _ hk => hk.2))), (sB BK101.out), (by repeat (first | (with_reducible first | exact HB.out | apply sLA | apply sLN | apply sLD | refine sLS ?_ GE101.out) | exact HB.out))⟩)
                  ·skip
                   rintro ⟨v111, v114, v117⟩ w18 ⟨h0_, h1_, h2_, h3_, h4_⟩
                   have n0_ : Aside0 (Kd.S (Kd.slice 3 (Kd.int .i64)) 22 w18 w.heap.size (fun k_ => some k_ ≠ (v114 : Value).ownBlock ∧ some k_ ≠ (v117 : Value).ownBlock) v111 y110) := ⟨h0_⟩
                   have n1_ : Aside0 (Kd.R (Kd.int .i64) 3 w18 w.heap.size (fun k_ => some k_ ≠ (v117 : Value).ownBlock) v114 y113) := ⟨h1_⟩
                   have n2_ : Aside0 (Kd.R (Kd.int .i64) 3 w18 w.heap.size (fun k_ => some k_ ≠ (v114 : Value).ownBlock) v117 y116) := ⟨h2_⟩
                   have n3_ : Aside0 (w18.heap[gb101]? = some (.cells #[.slice none 0 0, .slice none 0 0, .slice none 0 0, .slice none 0 0, .int .i64 0] 25 (0, 0))) := ⟨h3_⟩
                   have n4_ : Aside0 (Below w.heap.size w w18) := ⟨h4_⟩
                   clear BK101
                   clear HB
                   clear h0_ h1_ h2_ h3_ h4_
                   have HO112 := n0_
                   have HO115 := n1_
                   have HO118 := n2_
                   have BK101 := n3_
                   have HB := n4_
                   clear n0_ n1_ n2_ n3_ n4_
                   have hHeld := trivial
                   refine norm_ (a' := ?_) ?_ ?_
                   rotate_left
                   ·simp only [putAll, Act.put, sI, sZ, sV]
                    rfl
                   refine one_ (i := 0) (N := some 16) (sM 12 507) rfl rfl (one_of HT_.out (by kernel_rfl)) (by decide) (fun K hK => ?_)
                   refine Kd.R_lit_step (Kd.int .i64) _ 3 ?hg (N := 16) ?hd (xs := ([] : List Int)) (inner := []) (ok := fun _ => True) (okp := fun _ => True) ?hr ?hp (fun _ hk => hk) trivial (Below.refl _ _) (Nat.le_refl _) (by simp) ?_; (case hd => rfl); (case hg => rfl); (case hr => first | (go_simp; done) | (go_simp; rfl)); (case hp => exact (Reps.none _ _))
                   intro v105 w19 ho20 hb hg_ hnew_
                   clear hg_ hnew_
                   (first | rw [← Ny104.out] at ho20 | (simp only [Int.reduceToNat] at ho20; rw [← Ny104.out] at ho20))
                   have n0_ := sA (Kd.S_elder' (by (with_reducible repeat (first | apply Kd.S_alloc | apply Kd.S_drewN | apply Kd.S_drew)); exact HO112.out) (Kd.R_base ho20) hb)
                   have n1_ := sA (Kd.R_elder' (sR HO115.out) (Kd.R_base ho20) hb)
                   have n2_ := sA (Kd.R_elder' (sR HO118.out) (Kd.R_base ho20) hb)
                   have n3_ := sA (Kd.R_lower (Kd.R_new' (Kd.R_new' ho20 (Kd.R_lt (sR HO115.out))) (Kd.R_lt (sR HO118.out))) (below_size (by repeat (first | (with_reducible first | exact HB.out | apply sLA | apply sLN | apply sLD | refine sLS ?_ GE101.out) | exact HB.out))))
                   have n4_ := sA (blk_below (sB BK101.out) hb)
                   have n5_ := sA (below_step (by repeat (first | (with_reducible first | exact HB.out | apply sLA | apply sLN | apply sLD | refine sLS ?_ GE101.out) | exact HB.out)) hb)
                   clear HO112
                   clear HO115
                   clear HO118
                   clear BK101
                   clear HB
                   have HO112 := n0_
                   have HO115 := n1_
                   have HO118 := n2_
                   have HO106 := n3_
                   have BK101 := n4_
                   have HB := n5_
                   clear n0_ n1_ n2_ n3_ n4_ n5_
                   clear hb ho20
                   refine hK.out _ _ trivial (fun hHeld => ?_)
                   clear hK K
                   refine norm_ (a' := ?_) ?_ ?_
                   rotate_left
                   ·show Act.put _ (some 16) _ = _
                    simp only [Act.put, sI, sZ, sV, i64_w, i32_w]
                    rfl
                   exact norm_ (by first | (simp only [putAll, Act.put, sI, sZ, sV]; done) | (simp only [putAll, Act.put, sI, sZ, sV]; rfl)) (hJ0_4_6_8 (v105, v111, v114, v117) _ ⟨(sR (Kd.R_mono HO106.out (fun _ hk => ⟨hk.1.2, hk.2⟩))), (by (with_reducible repeat (first | apply Kd.S_alloc | apply Kd.S_drewN | apply Kd.S_drew)); exact Kd.S_mono HO112.out (fun _ hk => ⟨hk.2, ⟨hk.1.1, hk.1.2⟩⟩)), (sR (Kd.R_mono HO115.out (fun _ hk => ⟨hk.2, hk.1⟩))), (sR (Kd.R_mono HO118.out (fun _ hk => ⟨hk.2, hk.1⟩))), (sB BK101.out), (by repeat (first | (with_reducible first | exact HB.out | apply sLA | apply sLN | apply sLD | refine sLS ?_ GE101.out) | exact HB.out))⟩)
                 ·skip
                  rintro ⟨v105, v114, v117⟩ w18 ⟨h0_, h1_, h2_, h3_, h4_⟩
                  have n0_ : Aside0 (Kd.R (Kd.int .i64) 3 w18 w.heap.size (fun k_ => some k_ ≠ (v114 : Value).ownBlock ∧ some k_ ≠ (v117 : Value).ownBlock) v105 y104) := ⟨h0_⟩
                  have n1_ : Aside0 (Kd.R (Kd.int .i64) 3 w18 w.heap.size (fun k_ => some k_ ≠ (v105 : Value).ownBlock ∧ some k_ ≠ (v117 : Value).ownBlock) v114 y113) := ⟨h1_⟩
                  have n2_ : Aside0 (Kd.R (Kd.int .i64) 3 w18 w.heap.size (fun k_ => some k_ ≠ (v105 : Value).ownBlock ∧ some k_ ≠ (v114 : Value).ownBlock) v117 y116) := ⟨h2_⟩
                  have n3_ : Aside0 (w18.heap[gb101]? = some (.cells #[.slice none 0 0, .slice none 0 0, .slice none 0 0, .slice none 0 0, .int .i64 0] 25 (0, 0))) := ⟨h3_⟩
                  have n4_ : Aside0 (Below w.heap.size w w18) := ⟨h4_⟩
                  clear BK101
                  clear HB
                  clear h0_ h1_ h2_ h3_ h4_
                  have HO106 := n0_
                  have HO115 := n1_
                  have HO118 := n2_
                  have BK101 := n3_
                  have HB := n4_
                  clear n0_ n1_ n2_ n3_ n4_
                  have hHeld := trivial
                  refine norm_ (a' := ?_) ?_ ?_
                  rotate_left
                  ·simp only [putAll, Act.put, sI, sZ, sV]
                   rfl
                  refine two_ (i := 2) (j := 4) (Ni := some 18) (Nj := some 20) (sM 12 495) (sM 12 507) rfl rfl rfl rfl (two_of HT_.out (by kernel_rfl)) (by decide) (by decide) (fun K hK => ?_) (fun K hK => ?_)
                  ·skip
                   refine Kd.R_append_rows_step (Kd.int .i64) (w0 := w) w.heap.size (by rfl) (.tmp 16) (.tmp 17) 22 3 (.int .i64 0) 8 rfl Try.underlying22 info3 rfl (by decide) (by omega) v105 y104 l0 _ _ _ (fun k_ => some k_ ≠ (v114 : Value).ownBlock ∧ some k_ ≠ (v117 : Value).ownBlock) (fun _ => False) rfl rfl ?aO ?aR (fun _ _ h => h) (fun _ h => h.elim) ?aF ?aB ?aS ?aL ?_
                   (case aR => repeat (first | exact (Kd.C_below HR0.out HB.out) | (with_reducible refine Kd.C_alloc ?_ _) | (with_reducible refine Kd.C_drewN ?_ _) | (with_reducible refine Kd.C_drew ?_)))
                   (case aB => exact (by repeat (first | (with_reducible first | exact HB.out | apply sLA | apply sLN | apply sLD | refine sLS ?_ GE101.out) | exact HB.out)))
                   (case aF => exact (fun k_ hk => ⟨Kd.fresh' (Kd.R_lt (sR HO115.out)) k_ hk, Kd.fresh' (Kd.R_lt (sR HO118.out)) k_ hk⟩))
                   (case aO => exact (sR HO106.out))
                   (case aS => exact (below_size (by repeat (first | (with_reducible first | exact HB.out | apply sLA | apply sLN | apply sLD | refine sLS ?_ GE101.out) | exact HB.out))))
                   (case aL => have := LMc6.out; omega)
                   intro v108 w19 ho hb hg hat
                   rw [← Ny107.out] at ho
                   have n0_ := sA (blk_grown (g := gb101) (o := .cells #[.slice none 0 0, .slice none 0 0, .slice none 0 0, .slice none 0 0, .int .i64 0] 25 (0, 0)) (sB BK101.out) hg (Kd.R_ne HO106.out BK101.out (by decide)))
                   have n1_ := sA (Kd.R_after (ok := (fun k_ => some k_ ≠ (v117 : Value).ownBlock)) (sR (Kd.R_mono HO115.out (fun _ hk => ⟨hk.2, hk.1⟩))) hg hat)
                   have n2_ := sA (Kd.R_after (ok := (fun k_ => some k_ ≠ (v114 : Value).ownBlock)) (sR (Kd.R_mono HO118.out (fun _ hk => ⟨hk.2, hk.1⟩))) hg hat)
                   have n3_ := sA (hb)
                   have n4_ := sA (ho)
                   clear BK101
                   clear HO115
                   clear HO118
                   clear HB
                   clear HO106
                   have BK101 := n0_
                   have HO115 := n1_
                   have HO118 := n2_
                   have HB := n3_
                   have HO109 := n4_
                   clear n0_ n1_ n2_ n3_ n4_
                   clear ho hb hg hat
                   refine hK.out _ _ trivial (fun hHeld => ?_)
                   clear hK K
                   refine norm_ (a' := ?_) ?_ ?_
                   rotate_left
                   ·show Act.put _ (some 18) _ = _
                    simp only [Act.put, sI, sZ, sV, i64_w, i32_w]
                    rfl
                   exact norm_ (by first | (simp only [putAll, Act.put, sI, sZ, sV]; done) | (simp only [putAll, Act.put, sI, sZ, sV]; rfl)) (hJ0_2_6_8 (v105, v108, v114, v117) _ ⟨(sR HO109.out), (sR (Kd.R_mono HO115.out (fun _ hk => ⟨hk.2, hk.1⟩))), (sR (Kd.R_mono HO118.out (fun _ hk => ⟨hk.2, hk.1⟩))), (sB BK101.out), (by repeat (first | (with_reducible first | exact HB.out | apply sLA | apply sLN | apply sLD | refine sLS ?_ GE101.out) | exact HB.out))⟩)
                  ·skip
                   refine Kd.S_make_step (Kd.slice 3 (Kd.int .i64)) _ 22 (by rfl) (N := 20) rfl 23 _ _ rfl (l0.length : Int) rfl rfl Try.underlying23 (.slice none 0 0) 24 info22 rfl (by decide) (by omega) [] (ok := fun _ => True) (okp := fun _ => True) ⟨_, rfl, Kd.R_nil _ _ _ _ _⟩ (fun _ hk => hk) trivial (of_decide_eq_true (by first | (with_reducible assumption) | assumption)) (Nat.le_trans (Nat.mul_le_mul_right _ (of_decide_eq_true (by first | (with_reducible assumption) | assumption) : (l0.length : Int).toNat ≤ 11728124029610)) (by omega)) (Below.refl _ _) (Nat.le_refl _) ?_
                   intro v111 w19 ho20 hb hg_ hnew_
                   clear hg_ hnew_
                   (first | rw [← Ny110.out] at ho20 | (simp only [Int.reduceToNat] at ho20; rw [← Ny110.out] at ho20))
                   have n0_ := sA (Kd.R_below (sR HO106.out) hb)
                   have n1_ := sA (Kd.R_below (sR HO115.out) hb)
                   have n2_ := sA (Kd.R_below (sR HO118.out) hb)
                   have n3_ := sA (Kd.S_lower (Kd.S_new' (Kd.S_new' (Kd.S_new' ho20 (Kd.R_lt (sR HO106.out))) (Kd.R_lt (sR HO115.out))) (Kd.R_lt (sR HO118.out))) (below_size (by repeat (first | (with_reducible first | exact HB.out | apply sLA | apply sLN | apply sLD | refine sLS ?_ GE101.out) | exact HB.out))))
                   have n4_ := sA (blk_below (sB BK101.out) hb)
                   have n5_ := sA (below_step (by repeat (first | (with_reducible first | exact HB.out | apply sLA | apply sLN | apply sLD | refine sLS ?_ GE101.out) | exact HB.out)) hb)
                   clear HO106
                   clear HO115
                   clear HO118
                   clear BK101
                   clear HB
                   have HO106 := n0_
                   have HO115 := n1_
                   have HO118 := n2_
                   have HO112 := n3_
                   have BK101 := n4_
                   have HB := n5_
                   clear n0_ n1_ n2_ n3_ n4_ n5_
                   clear hb ho20
                   refine hK.out _ _ trivial (fun hHeld => ?_)
                   clear hK K
                   refine norm_ (a' := ?_) ?_ ?_
                   rotate_left
                   ·show Act.put _ (some 20) _ = _
                    simp only [Act.put, sI, sZ, sV, i64_w, i32_w]
                    rfl
                   exact norm_ (by first | (simp only [putAll, Act.put, sI, sZ, sV]; done) | (simp only [putAll, Act.put, sI, sZ, sV]; rfl)) (hJ0_4_6_8 (v105, v111, v114, v117) _ ⟨(sR HO106.out), (by (with_reducible repeat (first | apply Kd.S_alloc | apply Kd.S_drewN | apply Kd.S_drew)); exact Kd.S_mono HO112.out (fun _ hk => ⟨hk.1.1.2, ⟨hk.1.2, hk.2⟩⟩)), (sR HO115.out), (sR HO118.out), (sB BK101.out), (by repeat (first | (with_reducible first | exact HB.out | apply sLA | apply sLN | apply sLD | refine sLS ?_ GE101.out) | exact HB.out))⟩)
                ·skip
                 rintro ⟨v105, v111, v117⟩ w18 ⟨h0_, h1_, h2_, h3_, h4_⟩
                 have n0_ : Aside0 (Kd.R (Kd.int .i64) 3 w18 w.heap.size (fun k_ => some k_ ≠ (v117 : Value).ownBlock) v105 y104) := ⟨h0_⟩
                 have n1_ : Aside0 (Kd.S (Kd.slice 3 (Kd.int .i64)) 22 w18 w.heap.size (fun k_ => some k_ ≠ (v105 : Value).ownBlock ∧ some k_ ≠ (v117 : Value).ownBlock) v111 y110) := ⟨h1_⟩
                 have n2_ : Aside0 (Kd.R (Kd.int .i64) 3 w18 w.heap.size (fun k_ => some k_ ≠ (v105 : Value).ownBlock) v117 y116) := ⟨h2_⟩
                 have n3_ : Aside0 (w18.heap[gb101]? = some (.cells #[.slice none 0 0, .slice none 0 0, .slice none 0 0, .slice none 0 0, .int .i64 0] 25 (0, 0))) := ⟨h3_⟩
                 have n4_ : Aside0 (Below w.heap.size w w18) := ⟨h4_⟩
                 clear BK101
                 clear HB
                 clear h0_ h1_ h2_ h3_ h4_
                 have HO106 := n0_
                 have HO112 := n1_
                 have HO118 := n2_
                 have BK101 := n3_
                 have HB := n4_
                 clear n0_ n1_ n2_ n3_ n4_
                 have hHeld := trivial
                 refine norm_ (a' := ?_) ?_ ?_
                 rotate_left
                 ·simp only [putAll, Act.put, sI, sZ, sV]
                  rfl
                 refine two_ (i := 2) (j := 6) (Ni := some 18) (Nj := some 22) (sM 12 447) (sM 12 507) rfl rfl rfl rfl (two_of HT_.out (by kernel_rfl)) (by decide) (by decide) (fun K hK => ?_) (fun K hK => ?_)
                 ·skip
                  refine Kd.R_append_rows_step (Kd.int .i64) (w0 := w) w.heap.size (by rfl) (.tmp 16) (.tmp 17) 22 3 (.int .i64 0) 8 rfl Try.underlying22 info3 rfl (by decide) (by omega) v105 y104 l0 _ _ _ (fun k_ => some k_ ≠ (v117 : Value).ownBlock) (fun _ => False) rfl rfl ?aO ?aR (fun _ _ h => h) (fun _ h => h.elim) ?aF ?aB ?aS ?aL ?_
                  (case aR => repeat (first | exact (Kd.C_below HR0.out HB.out) | (with_reducible refine Kd.C_alloc ?_ _) | (with_reducible refine Kd.C_drewN ?_ _) | (with_reducible refine Kd.C_drew ?_)))
                  (case aB => exact (by repeat (first | (with_reducible first | exact HB.out | apply sLA | apply sLN | apply sLD | refine sLS ?_ GE101.out) | exact HB.out)))
                  (case aF => exact (fun k_ hk => Kd.fresh' (Kd.R_lt (sR HO118.out)) k_ hk))
                  (case aO => exact (sR HO106.out))
                  (case aS => exact (below_size (by repeat (first | (with_reducible first | exact HB.out | apply sLA | apply sLN | apply sLD | refine sLS ?_ GE101.out) | exact HB.out))))
                  (case aL => have := LMc6.out; omega)
                  intro v108 w19 ho hb hg hat
                  rw [← Ny107.out] at ho
                  have n0_ := sA (blk_grown (g := gb101) (o := .cells #[.slice none 0 0, .slice none 0 0, .slice none 0 0, .slice none 0 0, .int .i64 0] 25 (0, 0)) (sB BK101.out) hg (Kd.R_ne HO106.out BK101.out (by decide)))
                  have n1_ := sA (Kd.S_after (ok := (fun k_ => some k_ ≠ (v117 : Value).ownBlock)) (by (with_reducible repeat (first | apply Kd.S_alloc | apply Kd.S_drewN | apply Kd.S_drew)); exact Kd.S_mono HO112.out (fun _ hk => ⟨hk.2, hk.1⟩)) hg hat)
                  have n2_ := sA (Kd.R_after (ok := (fun _ => True)) (sR (Kd.R_mono HO118.out (fun _ hk => ⟨trivial, hk⟩))) hg hat)
                  have n3_ := sA (hb)
                  have n4_ := sA (ho)
                  clear BK101
                  clear HO112
                  clear HO118
                  clear HB
                  clear HO106
                  have BK101 := n0_
                  have HO112 := n1_
                  have HO118 := n2_
                  have HB := n3_
                  have HO109 := n4_
                  clear n0_ n1_ n2_ n3_ n4_
                  clear ho hb hg hat
                  refine hK.out _ _ trivial (fun hHeld => ?_)
                  clear hK K
                  refine norm_ (a' := ?_) ?_ ?_
                  rotate_left
                  ·show Act.put _ (some 18) _ = _
                   simp only [Act.put, sI, sZ, sV, i64_w, i32_w]
                   rfl
                  exact norm_ (by first | (simp only [putAll, Act.put, sI, sZ, sV]; done) | (simp only [putAll, Act.put, sI, sZ, sV]; rfl)) (hJ0_2_4_8 (v105, v108, v111, v117) _ ⟨(sR HO109.out), (by (with_reducible repeat (first | apply Kd.S_alloc | apply Kd.S_drewN | apply Kd.S_drew)); exact Kd.S_mono HO112.out (fun _ hk => ⟨hk.2, hk.1⟩)), (sR (Kd.R_mono HO118.out (fun _ hk => hk.2))), (sB BK101.out), (by repeat (first | (with_reducible first | exact HB.out | apply sLA | apply sLN | apply sLD | refine sLS ?_ GE101.out) | exact HB.out))⟩)
                 ·skip
                  refine Kd.R_make_step (Kd.int .i64) _ 3 (by rfl) (N := 22) rfl 22 _ _ rfl (l0.length : Int) rfl rfl Try.underlying22 (.int .i64 0) 8 info3 rfl (by decide) (by omega) 0 (ok := fun _ => True) (okp := fun _ => True) rfl (fun _ hk => hk) trivial (of_decide_eq_true (by first | (with_reducible assumption) | assumption)) (Nat.le_trans (Nat.mul_le_mul_right _ (of_decide_eq_true (by first | (with_reducible assumption) | assumption) : (l0.length : Int).toNat ≤ 35184372088832)) (by omega)) (Below.refl _ _) (Nat.le_refl _) ?_
                  intro v114 w19 ho20 hb hg_ hnew_
                  clear hg_ hnew_
                  (first | rw [← Ny113.out] at ho20 | (simp only [Int.reduceToNat] at ho20; rw [← Ny113.out] at ho20))
                  have n0_ := sA (Kd.R_elder' (sR HO106.out) (Kd.R_base ho20) hb)
                  have n1_ := sA (Kd.S_elder' (by (with_reducible repeat (first | apply Kd.S_alloc | apply Kd.S_drewN | apply Kd.S_drew)); exact HO112.out) (Kd.R_base ho20) hb)
                  have n2_ := sA (Kd.R_elder' (sR HO118.out) (Kd.R_base ho20) hb)
                  have n3_ := sA (Kd.R_lower (Kd.R_new' (Kd.R_new' ho20 (Kd.R_lt (sR HO106.out))) (Kd.R_lt (sR HO118.out))) (below_size (by repeat (first | (with_reducible first | exact HB.out | apply sLA | apply sLN | apply sLD | refine sLS ?_ GE101.out) | exact HB.out))))
                  have n4_ := sA (blk_below (sB BK101.out) hb)
                  have n5_ := sA (below_step (by repeat (first | (with_reducible first | exact HB.out | apply sLA | apply sLN | apply sLD | refine sLS ?_ GE101.out) | exact HB.out)) hb)
                  clear HO106
                  clear HO112
                  clear HO118
                  clear BK101
                  clear HB
                  have HO106 := n0_
                  have HO112 := n1_
                  have HO118 := n2_
                  have HO115 := n3_
                  have BK101 := n4_
                  have HB := n5_
                  clear n0_ n1_ n2_ n3_ n4_ n5_
                  clear hb ho20
                  refine hK.out _ _ trivial (fun hHeld => ?_)
                  clear hK K
                  refine norm_ (a' := ?_) ?_ ?_
                  rotate_left
                  ·show Act.put _ (some 22) _ = _
                   simp only [Act.put, sI, sZ, sV, i64_w, i32_w]
                   rfl
                  exact norm_ (by first | (simp only [putAll, Act.put, sI, sZ, sV]; done) | (simp only [putAll, Act.put, sI, sZ, sV]; rfl)) (hJ0_4_6_8 (v105, v111, v114, v117) _ ⟨(sR (Kd.R_mono HO106.out (fun _ hk => ⟨hk.2, hk.1⟩))), (by (with_reducible repeat (first | apply Kd.S_alloc | apply Kd.S_drewN | apply Kd.S_drew)); exact Kd.S_mono HO112.out (fun _ hk => ⟨hk.1.1, ⟨hk.2, hk.1.2⟩⟩)), (sR (Kd.R_mono HO115.out (fun _ hk => ⟨hk.1.2, hk.2⟩))), (sR HO118.out), (sB BK101.out), (by repeat (first | (with_reducible first | exact HB.out | apply sLA | apply sLN | apply sLD | refine sLS ?_ GE101.out) | exact HB.out))⟩)
               ·skip
                rintro ⟨v105, v111, v114⟩ w18 ⟨h0_, h1_, h2_, h3_, h4_⟩
                have n0_ : Aside0 (Kd.R (Kd.int .i64) 3 w18 w.heap.size (fun k_ => some k_ ≠ (v114 : Value).ownBlock) v105 y104) := ⟨h0_⟩
                have n1_ : Aside0 (Kd.S (Kd.slice 3 (Kd.int .i64)) 22 w18 w.heap.size (fun k_ => some k_ ≠ (v105 : Value).ownBlock ∧ some k_ ≠ (v114 : Value).ownBlock) v111 y110) := ⟨h1_⟩
                have n2_ : Aside0 (Kd.R (Kd.int .i64) 3 w18 w.heap.size (fun k_ => some k_ ≠ (v105 : Value).ownBlock) v114 y113) := ⟨h2_⟩
                have n3_ : Aside0 (w18.heap[gb101]? = some (.cells #[.slice none 0 0, .slice none 0 0, .slice none 0 0, .slice none 0 0, .int .i64 0] 25 (0, 0))) := ⟨h3_⟩
                have n4_ : Aside0 (Below w.heap.size w w18) := ⟨h4_⟩
                clear BK101
                clear HB
                clear h0_ h1_ h2_ h3_ h4_
                have HO106 := n0_
                have HO112 := n1_
                have HO115 := n2_
                have BK101 := n3_
                have HB := n4_
                clear n0_ n1_ n2_ n3_ n4_
                have hHeld := trivial
                refine norm_ (a' := ?_) ?_ ?_
                rotate_left
                ·simp only [putAll, Act.put, sI, sZ, sV]
                 rfl
                refine two_ (i := 2) (j := 8) (Ni := some 18) (Nj := some 24) (sM 12 255) (sM 12 507) rfl rfl rfl rfl (two_of HT_.out (by kernel_rfl)) (by decide) (by decide) (fun K hK => ?_) (fun K hK => ?_)
                ·skip
                 refine Kd.R_append_rows_step (Kd.int .i64) (w0 := w) w.heap.size (by rfl) (.tmp 16) (.tmp 17) 22 3 (.int .i64 0) 8 rfl Try.underlying22 info3 rfl (by decide) (by omega) v105 y104 l0 _ _ _ (fun k_ => some k_ ≠ (v114 : Value).ownBlock) (fun _ => False) rfl rfl ?aO ?aR (fun _ _ h => h) (fun _ h => h.elim) ?aF ?aB ?aS ?aL ?_
                 (case aR => repeat (first | exact (Kd.C_below HR0.out HB.out) | (with_reducible refine Kd.C_alloc ?_ _) | (with_reducible refine Kd.C_drewN ?_ _) | (with_reducible refine Kd.C_drew ?_)))
                 (case aB => exact (by repeat (first | (with_reducible first | exact HB.out | apply sLA | apply sLN | apply sLD | refine sLS ?_ GE101.out) | exact HB.out)))
                 (case aF => exact (fun k_ hk => Kd.fresh' (Kd.R_lt (sR HO115.out)) k_ hk))
                 (case aO => exact (sR HO106.out))
                 (case aS => exact (below_size (by repeat (first | (with_reducible first | exact HB.out | apply sLA | apply sLN | apply sLD | refine sLS ?_ GE101.out) | exact HB.out))))
                 (case aL => have := LMc6.out; omega)
                 intro v108 w19 ho hb hg hat
                 rw [← Ny107.out] at ho
                 have n0_ := sA (blk_grown (g := gb101) (o := .cells #[.slice none 0 0, .slice none 0 0, .slice none 0 0, .slice none 0 0, .int .i64 0] 25 (0, 0)) (sB BK101.out) hg (Kd.R_ne HO106.out BK101.out (by decide)))
                 have n1_ := sA (Kd.S_after (ok := (fun k_ => some k_ ≠ (v114 : Value).ownBlock)) (by (with_reducible repeat (first | apply Kd.S_alloc | apply Kd.S_drewN | apply Kd.S_drew)); exact Kd.S_mono HO112.out (fun _ hk => ⟨hk.2, hk.1⟩)) hg hat)
                 have n2_ := sA (Kd.R_after (ok := (fun _ => True)) (sR (Kd.R_mono HO115.out (fun _ hk => ⟨trivial, hk⟩))) hg hat)
                 have n3_ := sA (hb)
                 have n4_ := sA (ho)
                 clear BK101
                 clear HO112
                 clear HO115
                 clear HB
                 clear HO106
                 have BK101 := n0_
                 have HO112 := n1_
                 have HO115 := n2_
                 have HB := n3_
                 have HO109 := n4_
                 clear n0_ n1_ n2_ n3_ n4_
                 clear ho hb hg hat
                 refine hK.out _ _ trivial (fun hHeld => ?_)
                 clear hK K
                 refine norm_ (a' := ?_) ?_ ?_
                 rotate_left
                 ·show Act.put _ (some 18) _ = _
                  simp only [Act.put, sI, sZ, sV, i64_w, i32_w]
                  rfl
                 exact norm_ (by first | (simp only [putAll, Act.put, sI, sZ, sV]; done) | (simp only [putAll, Act.put, sI, sZ, sV]; rfl)) (hJ0_2_4_6 (v105, v108, v111, v114) _ ⟨(sR HO109.out), (by (with_reducible repeat (first | apply Kd.S_alloc | apply Kd.S_drewN | apply Kd.S_drew)); exact Kd.S_mono HO112.out (fun _ hk => ⟨hk.2, hk.1⟩)), (sR (Kd.R_mono HO115.out (fun _ hk => hk.2))), (sB BK101.out), (by repeat (first | (with_reducible first | exact HB.out | apply sLA | apply sLN | apply sLD | refine sLS ?_ GE101.out) | exact HB.out))⟩)
                ·skip
                 refine Kd.R_make_step (Kd.int .i64) _ 3 (by rfl) (N := 24) rfl 22 _ _ rfl (l0.length : Int) rfl rfl Try.underlying22 (.int .i64 0) 8 info3 rfl (by decide) (by omega) 0 (ok := fun _ => True) (okp := fun _ => True) rfl (fun _ hk => hk) trivial (of_decide_eq_true (by first | (with_reducible assumption) | assumption)) (Nat.le_trans (Nat.mul_le_mul_right _ (of_decide_eq_true (by first | (with_reducible assumption) | assumption) : (l0.length : Int).toNat ≤ 35184372088832)) (by omega)) (Below.refl _ _) (Nat.le_refl _) ?_
                 intro v117 w19 ho20 hb hg_ hnew_
                 clear hg_ hnew_
                 (first | rw [← Ny116.out] at ho20 | (simp only [Int.reduceToNat] at ho20; rw [← Ny116.out] at ho20))
                 have n0_ := sA (Kd.R_elder' (sR HO106.out) (Kd.R_base ho20) hb)
                 have n1_ := sA (Kd.S_elder' (by (with_reducible repeat (first | apply Kd.S_alloc | apply Kd.S_drewN | apply Kd.S_drew)); exact HO112.out) (Kd.R_base ho20) hb)
                 have n2_ := sA (Kd.R_elder' (sR HO115.out) (Kd.R_base ho20) hb)
                 have n3_ := sA (Kd.R_lower (Kd.R_new' (Kd.R_new' ho20 (Kd.R_lt (sR HO106.out))) (Kd.R_lt (sR HO115.out))) (below_size (by repeat (first | (with_reducible first | exact HB.out | apply sLA | apply sLN | apply sLD | refine sLS ?_ GE101.out) | exact HB.out))))
                 have n4_ := sA (blk_below (sB BK101.out) hb)
                 have n5_ := sA (below_step (by repeat (first | (with_reducible first | exact HB.out | apply sLA | apply sLN | apply sLD | refine sLS ?_ GE101.out) | exact HB.out)) hb)
                 clear HO106
                 clear HO112
                 clear HO115
                 clear BK101
                 clear HB
                 have HO106 := n0_
                 have HO112 := n1_
                 have HO115 := n2_
                 have HO118 := n3_
                 have BK101 := n4_
                 have HB := n5_
                 clear n0_ n1_ n2_ n3_ n4_ n5_
                 clear hb ho20
                 refine hK.out _ _ trivial (fun hHeld => ?_)
                 clear hK K
                 refine norm_ (a' := ?_) ?_ ?_
                 rotate_left
                 ·show Act.put _ (some 24) _ = _
                  simp only [Act.put, sI, sZ, sV, i64_w, i32_w]
                  rfl
                 exact norm_ (by first | (simp only [putAll, Act.put, sI, sZ, sV]; done) | (simp only [putAll, Act.put, sI, sZ, sV]; rfl)) (hJ0_4_6_8 (v105, v111, v114, v117) _ ⟨(sR HO106.out), (by (with_reducible repeat (first | apply Kd.S_alloc | apply Kd.S_drewN | apply Kd.S_drew)); exact Kd.S_mono HO112.out (fun _ hk => ⟨hk.1.1, ⟨hk.1.2, hk.2⟩⟩)), (sR HO115.out), (sR (Kd.R_mono HO118.out (fun _ hk => ⟨hk.1.2, hk.2⟩))), (sB BK101.out), (by repeat (first | (with_reducible first | exact HB.out | apply sLA | apply sLN | apply sLD | refine sLS ?_ GE101.out) | exact HB.out))⟩)
              ·skip
               rintro ⟨v105, v108, v117⟩ w17 ⟨h0_, h1_, h2_, h3_⟩
               have n0_ : Aside0 (Kd.R (Kd.int .i64) 3 w17 w.heap.size (fun k_ => some k_ ≠ (v117 : Value).ownBlock) v108 y107) := ⟨h0_⟩
               have n1_ : Aside0 (Kd.R (Kd.int .i64) 3 w17 w.heap.size (fun k_ => some k_ ≠ (v108 : Value).ownBlock) v117 y116) := ⟨h1_⟩
               have n2_ : Aside0 (w17.heap[gb101]? = some (.cells #[.slice none 0 0, .slice none 0 0, .slice none 0 0, .slice none 0 0, .int .i64 0] 25 (0, 0))) := ⟨h2_⟩
               have n3_ : Aside0 (Below w.heap.size w w17) := ⟨h3_⟩
               clear BK101
               clear HB
               clear h0_ h1_ h2_ h3_
               have HO109 := n0_
               have HO118 := n1_
               have BK101 := n2_
               have HB := n3_
               clear n0_ n1_ n2_ n3_
               have hHeld := trivial
               refine norm_ (a' := ?_) ?_ ?_
               rotate_left
               ·simp only [putAll, Act.put, sI, sZ, sV]
                rfl
               refine two_ (i := 4) (j := 6) (Ni := some 20) (Nj := some 22) (sM 12 447) (sM 12 495) rfl rfl rfl rfl (two_of HT_.out (by kernel_rfl)) (by decide) (by decide) (fun K hK => ?_) (fun K hK => ?_)
               ·skip
                refine Kd.S_make_step (Kd.slice 3 (Kd.int .i64)) _ 22 (by rfl) (N := 20) rfl 23 _ _ rfl (l0.length : Int) rfl rfl Try.underlying23 (.slice none 0 0) 24 info22 rfl (by decide) (by omega) [] (ok := fun _ => True) (okp := fun _ => True) ⟨_, rfl, Kd.R_nil _ _ _ _ _⟩ (fun _ hk => hk) trivial (of_decide_eq_true (by first | (with_reducible assumption) | assumption)) (Nat.le_trans (Nat.mul_le_mul_right _ (of_decide_eq_true (by first | (with_reducible assumption) | assumption) : (l0.length : Int).toNat ≤ 11728124029610)) (by omega)) (Below.refl _ _) (Nat.le_refl _) ?_
                intro v111 w18 ho19 hb hg_ hnew_
                clear hg_ hnew_
                (first | rw [← Ny110.out] at ho19 | (simp only [Int.reduceToNat] at ho19; rw [← Ny110.out] at ho19))
                have n0_ := sA (Kd.R_below (sR HO109.out) hb)
                have n1_ := sA (Kd.R_below (sR HO118.out) hb)
                have n2_ := sA (Kd.S_lower (Kd.S_new' (Kd.S_new' ho19 (Kd.R_lt (sR HO109.out))) (Kd.R_lt (sR HO118.out))) (below_size (by repeat (first | (with_reducible first | exact HB.out | apply sLA | apply sLN | apply sLD | refine sLS ?_ GE101.out) | exact HB.out))))
                have n3_ := sA (blk_below (sB BK101.out) hb)
                have n4_ := sA (below_step (by repeat (first | (with_reducible first | exact HB.out | apply sLA | apply sLN | apply sLD | refine sLS ?_ GE101.out) | exact HB.out)) hb)
                clear HO109
                clear HO118
                clear BK101
                clear HB
                have HO109 := n0_
                have HO118 := n1_
                have HO112 := n2_
                have BK101 := n3_
                have HB := n4_
                clear n0_ n1_ n2_ n3_ n4_
                clear hb ho19
                refine hK.out _ _ trivial (fun hHeld => ?_)
                clear hK K
                refine norm_ (a' := ?_) ?_ ?_
                rotate_left
                ·show Act.put _ (some 20) _ = _
                 simp only [Act.put, sI, sZ, sV, i64_w, i32_w]
                 rfl
                exact norm_ (by first | (simp only [putAll, Act.put, sI, sZ, sV]; done) | (simp only [putAll, Act.put, sI, sZ, sV]; rfl)) (hJ0_2_4_8 (v105, v108, v111, v117) _ ⟨(sR HO109.out), (by (with_reducible repeat (first | apply Kd.S_alloc | apply Kd.S_drewN | apply Kd.S_drew)); exact Kd.S_mono HO112.out (fun _ hk => ⟨hk.1.2, hk.2⟩)), (sR HO118.out), (sB BK101.out), (by repeat (first | (with_reducible first | exact HB.out | apply sLA | apply sLN | apply sLD | refine sLS ?_ GE101.out) | exact HB.out))⟩)
               ·skip
                refine Kd.R_make_step (Kd.int .i64) _ 3 (by rfl) (N := 22) rfl 22 _ _ rfl (l0.length : Int) rfl rfl Try.underlying22 (.int .i64 0) 8 info3 rfl (by decide) (by omega) 0 (ok := fun _ => True) (okp := fun _ => True) rfl (fun _ hk => hk) trivial (of_decide_eq_true (by first | (with_reducible assumption) | assumption)) (Nat.le_trans (Nat.mul_le_mul_right _ (of_decide_eq_true (by first | (with_reducible assumption) | assumption) : (l0.length : Int).toNat ≤ 35184372088832)) (by omega)) (Below.refl _ _) (Nat.le_refl _) ?_
                intro v114 w18 ho19 hb hg_ hnew_
                clear hg_ hnew_
                (first | rw [← Ny113.out] at ho19 | (simp only [Int.reduceToNat] at ho19; rw [← Ny113.out] at ho19))
                have n0_ := sA (Kd.R_elder' (sR HO109.out) (Kd.R_base ho19) hb)
                have n1_ := sA (Kd.R_elder' (sR HO118.out) (Kd.R_base ho19) hb)
                have n2_ := sA (Kd.R_lower (Kd.R_new' (Kd.R_new' ho19 (Kd.R_lt (sR HO109.out))) (Kd.R_lt (sR HO118.out))) (below_size (by repeat (first | (with_reducible first | exact HB.out | apply sLA | apply sLN | apply sLD | refine sLS ?_ GE101.out) | exact HB.out))))
                have n3_ := sA (blk_below (sB BK101.out) hb)
                have n4_ := sA (below_step (by repeat (first | (with_reducible first | exact HB.out | apply sLA | apply sLN | apply sLD | refine sLS ?_ GE101.out) | exact HB.out)) hb)
                clear HO109
                clear HO118
                clear BK101
                clear HB
                have HO109 := n0_
                have HO118 := n1_
                have HO115 := n2_
                have BK101 := n3_
                have HB := n4_
                clear n0_ n1_ n2_ n3_ n4_
                clear hb ho19
                refine hK.out _ _ trivial (fun hHeld => ?_)
                clear hK K
                refine norm_ (a' := ?_) ?_ ?_
                rotate_left
                ·show Act.put _ (some 22) _ = _
                 simp only [Act.put, sI, sZ, sV, i64_w, i32_w]
                 rfl
                exact norm_ (by first | (simp only [putAll, Act.put, sI, sZ, sV]; done) | (simp only [putAll, Act.put, sI, sZ, sV]; rfl)) (hJ0_2_6_8 (v105, v108, v114, v117) _ ⟨(sR (Kd.R_mono HO109.out (fun _ hk => ⟨hk.2, hk.1⟩))), (sR (Kd.R_mono HO115.out (fun _ hk => ⟨hk.1.2, hk.2⟩))), (sR HO118.out), (sB BK101.out), (by repeat (first | (with_reducible first | exact HB.out | apply sLA | apply sLN | apply sLD | refine sLS ?_ GE101.out) | exact HB.out))⟩)
             ·skip
              rintro ⟨v105, v108, v114⟩ w17 ⟨h0_, h1_, h2_, h3_⟩
              have n0_ : Aside0 (Kd.R (Kd.int .i64) 3 w17 w.heap.size (fun k_ => some k_ ≠ (v114 : Value).ownBlock) v108 y107) := ⟨h0_⟩
              have n1_ : Aside0 (Kd.R (Kd.int .i64) 3 w17 w.heap.size (fun k_ => some k_ ≠ (v108 : Value).ownBlock) v114 y113) := ⟨h1_⟩
              have n2_ : Aside0 (w17.heap[gb101]? = some (.cells #[.slice none 0 0, .slice none 0 0, .slice none 0 0, .slice none 0 0, .int .i64 0] 25 (0, 0))) := ⟨h2_⟩
              have n3_ : Aside0 (Below w.heap.size w w17) := ⟨h3_⟩
              clear BK101
              clear HB
              clear h0_ h1_ h2_ h3_
              have HO109 := n0_
              have HO115 := n1_
              have BK101 := n2_
              have HB := n3_
              clear n0_ n1_ n2_ n3_
              have hHeld := trivial
              refine norm_ (a' := ?_) ?_ ?_
              rotate_left
              ·simp only [putAll, Act.put, sI, sZ, sV]
               rfl
              refine two_ (i := 4) (j := 8) (Ni := some 20) (Nj := some 24) (sM 12 255) (sM 12 495) rfl rfl rfl rfl (two_of HT_.out (by kernel_rfl)) (by decide) (by decide) (fun K hK => ?_) (fun K hK => ?_)
              ·skip
               refine Kd.S_make_step (Kd.slice 3 (Kd.int .i64)) _ 22 (by rfl) (N := 20) rfl 23 _ _ rfl (l0.length : Int) rfl rfl Try.underlying23 (.slice none 0 0) 24 info22 rfl (by decide) (by omega) [] (ok := fun _ => True) (okp := fun _ => True) ⟨_, rfl, Kd.R_nil _ _ _ _ _⟩ (fun _ hk => hk) trivial (of_decide_eq_true (by first | (with_reducible assumption) | assumption)) (Nat.le_trans (Nat.mul_le_mul_right _ (of_decide_eq_true (by first | (with_reducible assumption) | assumption) : (l0.length : Int).toNat ≤ 11728124029610)) (by omega)) (Below.refl _ _) (Nat.le_refl _) ?_
               intro v111 w18 ho19 hb hg_ hnew_
               clear hg_ hnew_
               (first | rw [← Ny110.out] at ho19 | (simp only [Int.reduceToNat] at ho19; rw [← Ny110.out] at ho19))
               have n0_ := sA (Kd.R_below (sR HO109.out) hb)
               have n1_ := sA (Kd.R_below (sR HO115.out) hb)
               have n2_ := sA (Kd.S_lower (Kd.S_new' (Kd.S_new' ho19 (Kd.R_lt (sR HO109.out))) (Kd.R_lt (sR HO115.out))) (below_size (by repeat (first | (with_reducible first | exact HB.out | apply sLA | apply sLN | apply sLD | refine sLS ?_ GE101.out) | exact HB.out))))
               have n3_ := sA (blk_below (sB BK101.out) hb)
               have n4_ := sA (below_step (by repeat (first | (with_reducible first | exact HB.out | apply sLA | apply sLN | apply sLD | refine sLS ?_ GE101.out) | exact HB.out)) hb)
               clear HO109
               clear HO115
               clear BK101
               clear HB
               have HO109 := n0_
               have HO115 := n1_
               have HO112 := n2_
               have BK101 := n3_
               have HB := n4_
               clear n0_ n1_ n2_ n3_ n4_
               clear hb ho19
               refine hK.out _ _ trivial (fun hHeld => ?_)
               clear hK K
               refine norm_ (a' := ?_) ?_ ?_
               rotate_left
               ·show Act.put _ (some 20) _ = _
                simp only [Act.put, sI, sZ, sV, i64_w, i32_w]
                rfl
               exact norm_ (by first | (simp only [putAll, Act.put, sI, sZ, sV]; done) | (simp only [putAll, Act.put, sI, sZ, sV]; rfl)) (hJ0_2_4_6 (v105, v108, v111, v114) _ ⟨(sR HO109.out), (by (with_reducible repeat (first | apply Kd.S_alloc | apply Kd.S_drewN | apply Kd.S_drew)); exact Kd.S_mono HO112.out (fun _ hk => ⟨hk.1.2, hk.2⟩)), (sR HO115.out), (sB BK101.out), (by repeat (first | (with_reducible first | exact HB.out | apply sLA | apply sLN | apply sLD | refine sLS ?_ GE101.out) | exact HB.out))⟩)
              ·skip
               refine Kd.R_make_step (Kd.int .i64) _ 3 (by rfl) (N := 24) rfl 22 _ _ rfl (l0.length : Int) rfl rfl Try.underlying22 (.int .i64 0) 8 info3 rfl (by decide) (by omega) 0 (ok := fun _ => True) (okp := fun _ => True) rfl (fun _ hk => hk) trivial (of_decide_eq_true (by first | (with_reducible assumption) | assumption)) (Nat.le_trans (Nat.mul_le_mul_right _ (of_decide_eq_true (by first | (with_reducible assumption) | assumption) : (l0.length : Int).toNat ≤ 35184372088832)) (by omega)) (Below.refl _ _) (Nat.le_refl _) ?_
               intro v117 w18 ho19 hb hg_ hnew_
               clear hg_ hnew_
               (first | rw [← Ny116.out] at ho19 | (simp only [Int.reduceToNat] at ho19; rw [← Ny116.out] at ho19))
               have n0_ := sA (Kd.R_elder' (sR HO109.out) (Kd.R_base ho19) hb)
               have n1_ := sA (Kd.R_elder' (sR HO115.out) (Kd.R_base ho19) hb)
               have n2_ := sA (Kd.R_lower (Kd.R_new' (Kd.R_new' ho19 (Kd.R_lt (sR HO109.out))) (Kd.R_lt (sR HO115.out))) (below_size (by repeat (first | (with_reducible first | exact HB.out | apply sLA | apply sLN | apply sLD | refine sLS ?_ GE101.out) | exact HB.out))))
               have n3_ := sA (blk_below (sB BK101.out) hb)
               have n4_ := sA (below_step (by repeat (first | (with_reducible first | exact HB.out | apply sLA | apply sLN | apply sLD | refine sLS ?_ GE101.out) | exact HB.out)) hb)
               clear HO109
               clear HO115
               clear BK101
               clear HB
               have HO109 := n0_
               have HO115 := n1_
               have HO118 := n2_
               have BK101 := n3_
               have HB := n4_
               clear n0_ n1_ n2_ n3_ n4_
               clear hb ho19
               refine hK.out _ _ trivial (fun hHeld => ?_)
               clear hK K
               refine norm_ (a' := ?_) ?_ ?_
               rotate_left
               ·show Act.put _ (some 24) _ = _
                simp only [Act.put, sI, sZ, sV, i64_w, i32_w]
                rfl
               exact norm_ (by first | (simp only [putAll, Act.put, sI, sZ, sV]; done) | (simp only [putAll, Act.put, sI, sZ, sV]; rfl)) (hJ0_2_6_8 (v105, v108, v114, v117) _ ⟨(sR HO109.out), (sR HO115.out), (sR (Kd.R_mono HO118.out (fun _ hk => ⟨hk.1.2, hk.2⟩))), (sB BK101.out), (by repeat (first | (with_reducible first | exact HB.out | apply sLA | apply sLN | apply sLD | refine sLS ?_ GE101.out) | exact HB.out))⟩)
            ·skip
             rintro ⟨v105, v108, v111⟩ w17 ⟨h0_, h1_, h2_, h3_⟩
             have n0_ : Aside0 (Kd.R (Kd.int .i64) 3 w17 w.heap.size (fun _ => True) v108 y107) := ⟨h0_⟩
             have n1_ : Aside0 (Kd.S (Kd.slice 3 (Kd.int .i64)) 22 w17 w.heap.size (fun k_ => some k_ ≠ (v108 : Value).ownBlock) v111 y110) := ⟨h1_⟩
             have n2_ : Aside0 (w17.heap[gb101]? = some (.cells #[.slice none 0 0, .slice none 0 0, .slice none 0 0, .slice none 0 0, .int .i64 0] 25 (0, 0))) := ⟨h2_⟩
             have n3_ : Aside0 (Below w.heap.size w w17) := ⟨h3_⟩
             clear BK101
             clear HB
             clear h0_ h1_ h2_ h3_
             have HO109 := n0_
             have HO112 := n1_
             have BK101 := n2_
             have HB := n3_
             clear n0_ n1_ n2_ n3_
             have hHeld := trivial
             refine norm_ (a' := ?_) ?_ ?_
             rotate_left
             ·simp only [putAll, Act.put, sI, sZ, sV]
              rfl
             refine two_ (i := 6) (j := 8) (Ni := some 22) (Nj := some 24) (sM 12 255) (sM 12 447) rfl rfl rfl rfl (two_of HT_.out (by kernel_rfl)) (by decide) (by decide) (fun K hK => ?_) (fun K hK => ?_)
             ·skip
              refine Kd.R_make_step (Kd.int .i64) _ 3 (by rfl) (N := 22) rfl 22 _ _ rfl (l0.length : Int) rfl rfl Try.underlying22 (.int .i64 0) 8 info3 rfl (by decide) (by omega) 0 (ok := fun _ => True) (okp := fun _ => True) rfl (fun _ hk => hk) trivial (of_decide_eq_true (by first | (with_reducible assumption) | assumption)) (Nat.le_trans (Nat.mul_le_mul_right _ (of_decide_eq_true (by first | (with_reducible assumption) | assumption) : (l0.length : Int).toNat ≤ 35184372088832)) (by omega)) (Below.refl _ _) (Nat.le_refl _) ?_
              intro v114 w18 ho19 hb hg_ hnew_
              clear hg_ hnew_
              (first | rw [← Ny113.out] at ho19 | (simp only [Int.reduceToNat] at ho19; rw [← Ny113.out] at ho19))
              have n0_ := sA (Kd.R_elder' (sR HO109.out) (Kd.R_base ho19) hb)
              have n1_ := sA (Kd.S_elder' (by (with_reducible repeat (first | apply Kd.S_alloc | apply Kd.S_drewN | apply Kd.S_drew)); exact HO112.out) (Kd.R_base ho19) hb)
              have n2_ := sA (Kd.R_lower (Kd.R_new' ho19 (Kd.R_lt (sR HO109.out))) (below_size (by repeat (first | (with_reducible first | exact HB.out | apply sLA | apply sLN | apply sLD | refine sLS ?_ GE101.out) | exact HB.out))))
              have n3_ := sA (blk_below (sB BK101.out) hb)
              have n4_ := sA (below_step (by repeat (first | (with_reducible first | exact HB.out | apply sLA | apply sLN | apply sLD | refine sLS ?_ GE101.out) | exact HB.out)) hb)
              clear HO109
              clear HO112
              clear BK101
              clear HB
              have HO109 := n0_
              have HO112 := n1_
              have HO115 := n2_
              have BK101 := n3_
              have HB := n4_
              clear n0_ n1_ n2_ n3_ n4_
              clear hb ho19
              refine hK.out _ _ trivial (fun hHeld => ?_)
              clear hK K
              refine norm_ (a' := ?_) ?_ ?_
              rotate_left
              ·show Act.put _ (some 22) _ = _
               simp only [Act.put, sI, sZ, sV, i64_w, i32_w]
               rfl
              exact norm_ (by first | (simp only [putAll, Act.put, sI, sZ, sV]; done) | (simp only [putAll, Act.put, sI, sZ, sV]; rfl)) (hJ0_2_4_6 (v105, v108, v111, v114) _ ⟨(sR (Kd.R_mono HO109.out (fun _ hk => hk.2))), (by (with_reducible repeat (first | apply Kd.S_alloc | apply Kd.S_drewN | apply Kd.S_drew)); exact HO112.out), (sR (Kd.R_mono HO115.out (fun _ hk => hk.2))), (sB BK101.out), (by repeat (first | (with_reducible first | exact HB.out | apply sLA | apply sLN | apply sLD | refine sLS ?_ GE101.out) | exact HB.out))⟩)
             ·skip
              refine Kd.R_make_step (Kd.int .i64) _ 3 (by rfl) (N := 24) rfl 22 _ _ rfl (l0.length : Int) rfl rfl Try.underlying22 (.int .i64 0) 8 info3 rfl (by decide) (by omega) 0 (ok := fun _ => True) (okp := fun _ => True) rfl (fun _ hk => hk) trivial (of_decide_eq_true (by first | (with_reducible assumption) | assumption)) (Nat.le_trans (Nat.mul_le_mul_right _ (of_decide_eq_true (by first | (with_reducible assumption) | assumption) : (l0.length : Int).toNat ≤ 35184372088832)) (by omega)) (Below.refl _ _) (Nat.le_refl _) ?_
              intro v117 w18 ho19 hb hg_ hnew_
              clear hg_ hnew_
              (first | rw [← Ny116.out] at ho19 | (simp only [Int.reduceToNat] at ho19; rw [← Ny116.out] at ho19))
              have n0_ := sA (Kd.R_elder' (sR HO109.out) (Kd.R_base ho19) hb)
              have n1_ := sA (Kd.S_elder' (by (with_reducible repeat (first | apply Kd.S_alloc | apply Kd.S_drewN | apply Kd.S_drew)); exact HO112.out) (Kd.R_base ho19) hb)
              have n2_ := sA (Kd.R_lower (Kd.R_new' ho19 (Kd.R_lt (sR HO109.out))) (below_size (by repeat (first | (with_reducible first | exact HB.out | apply sLA | apply sLN | apply sLD | refine sLS ?_ GE101.out) | exact HB.out))))
              have n3_ := sA (blk_below (sB BK101.out) hb)
              have n4_ := sA (below_step (by repeat (first | (with_reducible first | exact HB.out | apply sLA | apply sLN | apply sLD | refine sLS ?_ GE101.out) | exact HB.out)) hb)
              clear HO109
              clear HO112
              clear BK101
              clear HB
              have HO109 := n0_
              have HO112 := n1_
              have HO118 := n2_
              have BK101 := n3_
              have HB := n4_
              clear n0_ n1_ n2_ n3_ n4_
              clear hb ho19
              refine hK.out _ _ trivial (fun hHeld => ?_)
              clear hK K
              refine norm_ (a' := ?_) ?_ ?_
              rotate_left
              ·show Act.put _ (some 24) _ = _
               simp only [Act.put, sI, sZ, sV, i64_w, i32_w]
               rfl
              exact norm_ (by first | (simp only [putAll, Act.put, sI, sZ, sV]; done) | (simp only [putAll, Act.put, sI, sZ, sV]; rfl)) (hJ0_2_4_8 (v105, v108, v111, v117) _ ⟨(sR (Kd.R_mono HO109.out (fun _ hk => hk.2))), (by (with_reducible repeat (first | apply Kd.S_alloc | apply Kd.S_drewN | apply Kd.S_drew)); exact HO112.out), (sR (Kd.R_mono HO118.out (fun _ hk => hk.2))), (sB BK101.out), (by repeat (first | (with_reducible first | exact HB.out | apply sLA | apply sLN | apply sLD | refine sLS ?_ GE101.out) | exact HB.out))⟩)
           ·skip
            rintro ⟨v105, v111, v114, v117⟩ w20 ⟨h0_, h1_, h2_, h3_, h4_, h5_⟩
            have n0_ : Aside0 (Kd.R (Kd.int .i64) 3 w20 w.heap.size (fun k_ => some k_ ≠ (v114 : Value).ownBlock ∧ some k_ ≠ (v117 : Value).ownBlock) v105 y104) := ⟨h0_⟩
            have n1_ : Aside0 (Kd.S (Kd.slice 3 (Kd.int .i64)) 22 w20 w.heap.size (fun k_ => some k_ ≠ (v105 : Value).ownBlock ∧ some k_ ≠ (v114 : Value).ownBlock ∧ some k_ ≠ (v117 : Value).ownBlock) v111 y110) := ⟨h1_⟩
            have n2_ : Aside0 (Kd.R (Kd.int .i64) 3 w20 w.heap.size (fun k_ => some k_ ≠ (v105 : Value).ownBlock ∧ some k_ ≠ (v117 : Value).ownBlock) v114 y113) := ⟨h2_⟩
            have n3_ : Aside0 (Kd.R (Kd.int .i64) 3 w20 w.heap.size (fun k_ => some k_ ≠ (v105 : Value).ownBlock ∧ some k_ ≠ (v114 : Value).ownBlock) v117 y116) := ⟨h3_⟩
            have n4_ : Aside0 (w20.heap[gb101]? = some (.cells #[.slice none 0 0, .slice none 0 0, .slice none 0 0, .slice none 0 0, .int .i64 0] 25 (0, 0))) := ⟨h4_⟩
            have n5_ : Aside0 (Below w.heap.size w w20) := ⟨h5_⟩
            clear BK101
            clear HB
            clear h0_ h1_ h2_ h3_ h4_ h5_
            have HO106 := n0_
            have HO112 := n1_
            have HO115 := n2_
            have HO118 := n3_
            have BK101 := n4_
            have HB := n5_
            clear n0_ n1_ n2_ n3_ n4_ n5_
            have hHeld := trivial
            refine norm_ (a' := ?_) ?_ ?_
            rotate_left
            ·simp only [putAll, Act.put, sI, sZ, sV]
             rfl
            refine one_ (i := 2) (N := some 18) (sM 12 511) rfl rfl (one_of HT_.out (by kernel_rfl)) (by decide) (fun K hK => ?_)
            refine Kd.R_append_rows_step (Kd.int .i64) (w0 := w) w.heap.size (by rfl) (.tmp 16) (.tmp 17) 22 3 (.int .i64 0) 8 rfl Try.underlying22 info3 rfl (by decide) (by omega) v105 y104 l0 _ _ _ (fun k_ => some k_ ≠ (v114 : Value).ownBlock ∧ some k_ ≠ (v117 : Value).ownBlock) (fun _ => False) rfl rfl ?aO ?aR (fun _ _ h => h) (fun _ h => h.elim) ?aF ?aB ?aS ?aL ?_
            (case aR => repeat (first | exact (Kd.C_below HR0.out HB.out) | (with_reducible refine Kd.C_alloc ?_ _) | (with_reducible refine Kd.C_drewN ?_ _) | (with_reducible refine Kd.C_drew ?_)))
            (case aB => exact (by repeat (first | (with_reducible first | exact HB.out | apply sLA | apply sLN | apply sLD | refine sLS ?_ GE101.out) | exact HB.out)))
            (case aF => exact (fun k_ hk => ⟨Kd.fresh' (Kd.R_lt (sR HO115.out)) k_ hk, Kd.fresh' (Kd.R_lt (sR HO118.out)) k_ hk⟩))
            (case aO => exact (sR HO106.out))
            (case aS => exact (below_size (by repeat (first | (with_reducible first | exact HB.out | apply sLA | apply sLN | apply sLD | refine sLS ?_ GE101.out) | exact HB.out))))
            (case aL => have := LMc6.out; omega)
            intro v108 w21 ho hb hg hat
            rw [← Ny107.out] at ho
            have n0_ := sA (blk_grown (g := gb101) (o := .cells #[.slice none 0 0, .slice none 0 0, .slice none 0 0, .slice none 0 0, .int .i64 0] 25 (0, 0)) (sB BK101.out) hg (Kd.R_ne HO106.out BK101.out (by decide)))
            have n1_ := sA (Kd.S_after (ok := (fun k_ => some k_ ≠ (v114 : Value).ownBlock ∧ some k_ ≠ (v117 : Value).ownBlock)) (by (with_reducible repeat (first | apply Kd.S_alloc | apply Kd.S_drewN | apply Kd.S_drew)); exact Kd.S_mono HO112.out (fun _ hk => ⟨⟨hk.2.1, hk.2.2⟩, hk.1⟩)) hg hat)
            have n2_ := sA (Kd.R_after (ok := (fun k_ => some k_ ≠ (v117 : Value).ownBlock)) (sR (Kd.R_mono HO115.out (fun _ hk => ⟨hk.2, hk.1⟩))) hg hat)
            have n3_ := sA (Kd.R_after (ok := (fun k_ => some k_ ≠ (v114 : Value).ownBlock)) (sR (Kd.R_mono HO118.out (fun _ hk => ⟨hk.2, hk.1⟩))) hg hat)
            have n4_ := sA (hb)
            have n5_ := sA (ho)
            clear BK101
            clear HO112
            clear HO115
            clear HO118
            clear HB
            clear HO106
            have BK101 := n0_
            have HO112 := n1_
            have HO115 := n2_
            have HO118 := n3_
            have HB := n4_
            have HO109 := n5_
            clear n0_ n1_ n2_ n3_ n4_ n5_
            clear ho hb hg hat
            obtain ⟨Ao22, co22, eo22⟩ := Kd.R_slice HO118.out
            (first | subst eo22 | (injection eo22 with f1_ f2_ f3_; have f4_ := f1_.symm; have f5_ := f3_.symm; clear f1_ f2_ f3_; subst f4_; subst f5_))
            obtain ⟨Ao23, co23, eo23⟩ := Kd.R_slice HO115.out
            (first | subst eo23 | (injection eo23 with f1_ f2_ f3_; have f4_ := f1_.symm; have f5_ := f3_.symm; clear f1_ f2_ f3_; subst f4_; subst f5_))
            obtain ⟨Ao24, co24, eo24⟩ := Kd.S_slice HO112.out
            (first | subst eo24 | (injection eo24 with f1_ f2_ f3_; have f4_ := f1_.symm; have f5_ := f3_.symm; clear f1_ f2_ f3_; subst f4_; subst f5_))
            obtain ⟨Ao25, co25, eo25⟩ := Kd.R_slice HO109.out
            (first | subst eo25 | (injection eo25 with f1_ f2_ f3_; have f4_ := f1_.symm; have f5_ := f3_.symm; clear f1_ f2_ f3_; subst f4_; subst f5_))
            refine hK.out _ _ trivial (fun hHeld => ?_)
            clear hK K
            refine norm_ (a' := ?_) ?_ ?_
            rotate_left
            ·show Act.put _ (some 18) _ = _
             simp only [Act.put, sI, sZ, sV, i64_w, i32_w]
             rfl
            exact norm_ (by first | (simp only [putAll, Act.put, sI, sZ, sV]; done) | (simp only [putAll, Act.put, sI, sZ, sV]; rfl)) (hJ0_2_4_6_8 (v105, .slice Ao25 y107.length co25, .slice Ao24 y110.length co24, .slice Ao23 y113.length co23, .slice Ao22 y116.length co22) _ ⟨(sR HO109.out), (by (with_reducible repeat (first | apply Kd.S_alloc | apply Kd.S_drewN | apply Kd.S_drew)); exact Kd.S_mono HO112.out (fun _ hk => ⟨hk.2, ⟨hk.1.1, hk.1.2⟩⟩)), (sR (Kd.R_mono HO115.out (fun _ hk => ⟨hk.2, hk.1⟩))), (sR (Kd.R_mono HO118.out (fun _ hk => ⟨hk.2, hk.1⟩))), (sB BK101.out), (by repeat (first | (with_reducible first | exact HB.out | apply sLA | apply sLN | apply sLD | refine sLS ?_ GE101.out) | exact HB.out))⟩)
          ·skip
           rintro ⟨v105, v108, v114, v117⟩ w19 ⟨h0_, h1_, h2_, h3_, h4_⟩
           have n0_ : Aside0 (Kd.R (Kd.int .i64) 3 w19 w.heap.size (fun k_ => some k_ ≠ (v114 : Value).ownBlock ∧ some k_ ≠ (v117 : Value).ownBlock) v108 y107) := ⟨h0_⟩
           have n1_ : Aside0 (Kd.R (Kd.int .i64) 3 w19 w.heap.size (fun k_ => some k_ ≠ (v108 : Value).ownBlock ∧ some k_ ≠ (v117 : Value).ownBlock) v114 y113) := ⟨h1_⟩
           have n2_ : Aside0 (Kd.R (Kd.int .i64) 3 w19 w.heap.size (fun k_ => some k_ ≠ (v108 : Value).ownBlock ∧ some k_ ≠ (v114 : Value).ownBlock) v117 y116) := ⟨h2_⟩
           have n3_ : Aside0 (w19.heap[gb101]? = some (.cells #[.slice none 0 0, .slice none 0 0, .slice none 0 0, .slice none 0 0, .int .i64 0] 25 (0, 0))) := ⟨h3_⟩
           have n4_ : Aside0 (Below w.heap.size w w19) := ⟨h4_⟩
           clear BK101
           clear HB
           clear h0_ h1_ h2_ h3_ h4_
           have HO109 := n0_
           have HO115 := n1_
           have HO118 := n2_
           have BK101 := n3_
           have HB := n4_
           clear n0_ n1_ n2_ n3_ n4_
           have hHeld := trivial
           refine norm_ (a' := ?_) ?_ ?_
           rotate_left
           ·simp only [putAll, Act.put, sI, sZ, sV]
            rfl
           refine one_ (i := 4) (N := some 20) (sM 12 511) rfl rfl (one_of HT_.out (by kernel_rfl)) (by decide) (fun K hK => ?_)
           refine Kd.S_make_step (Kd.slice 3 (Kd.int .i64)) _ 22 (by rfl) (N := 20) rfl 23 _ _ rfl (l0.length : Int) rfl rfl Try.underlying23 (.slice none 0 0) 24 info22 rfl (by decide) (by omega) [] (ok := fun _ => True) (okp := fun _ => True) ⟨_, rfl, Kd.R_nil _ _ _ _ _⟩ (fun _ hk => hk) trivial (of_decide_eq_true (by first | (with_reducible assumption) | assumption)) (Nat.le_trans (Nat.mul_le_mul_right _ (of_decide_eq_true (by first | (with_reducible assumption) | assumption) : (l0.length : Int).toNat ≤ 11728124029610)) (by omega)) (Below.refl _ _) (Nat.le_refl _) ?_
           intro v111 w20 ho21 hb hg_ hnew_
           clear hg_ hnew_
           (first | rw [← Ny110.out] at ho21 | (simp only [Int.reduceToNat] at ho21; rw [← Ny110.out] at ho21))
           have n0_ := sA (Kd.R_below (sR HO109.out) hb)
           have n1_ := sA (Kd.R_below (sR HO115.out) hb)
           have n2_ := sA (Kd.R_below (sR HO118.out) hb)
           have n3_ := sA (Kd.S_lower (Kd.S_new' (Kd.S_new' (Kd.S_new' ho21 (Kd.R_lt (sR HO109.out))) (Kd.R_lt (sR HO115.out))) (Kd.R_lt (sR HO118.out))) (below_size (by repeat (first | (with_reducible first | exact HB.out | apply sLA | apply sLN | apply sLD | refine sLS ?_ GE101.out) | exact HB.out))))
           have n4_ := sA (blk_below (sB BK101.out) hb)
           have n5_ := sA (below_step (by repeat (first | (with_reducible first | exact HB.out | apply sLA | apply sLN | apply sLD | refine sLS ?_ GE101.out) | exact HB.out)) hb)
           clear HO109
           clear HO115
           clear HO118
           clear BK101
           clear HB
           have HO109 := n0_
           have HO115 := n1_
           have HO118 := n2_
           have HO112 := n3_
           have BK101 := n4_
           have HB := n5_
           clear n0_ n1_ n2_ n3_ n4_ n5_
           clear hb ho21
           obtain ⟨Ao22, co22, eo22⟩ := Kd.R_slice HO118.out
           (first | subst eo22 | (injection eo22 with f1_ f2_ f3_; have f4_ := f1_.symm; have f5_ := f3_.symm; clear f1_ f2_ f3_; subst f4_; subst f5_))
           obtain ⟨Ao23, co23, eo23⟩ := Kd.R_slice HO115.out
           (first | subst eo23 | (injection eo23 with f1_ f2_ f3_; have f4_ := f1_.symm; have f5_ := f3_.symm; clear f1_ f2_ f3_; subst f4_; subst f5_))
           obtain ⟨Ao24, co24, eo24⟩ := Kd.S_slice HO112.out
           (first | subst eo24 | (injection eo24 with f1_ f2_ f3_; have f4_ := f1_.symm; have f5_ := f3_.symm; clear f1_ f2_ f3_; subst f4_; subst f5_))
           obtain ⟨Ao25, co25, eo25⟩ := Kd.R_slice HO109.out
           (first | subst eo25 | (injection eo25 with f1_ f2_ f3_; have f4_ := f1_.symm; have f5_ := f3_.symm; clear f1_ f2_ f3_; subst f4_; subst f5_))
           refine hK.out _ _ trivial (fun hHeld => ?_)
           clear hK K
           refine norm_ (a' := ?_) ?_ ?_
           rotate_left
           ·show Act.put _ (some 20) _ = _
            simp only [Act.put, sI, sZ, sV, i64_w, i32_w]
            rfl
           exact norm_ (by first | (simp only [putAll, Act.put, sI, sZ, sV]; done) | (simp only [putAll, Act.put, sI, sZ, sV]; rfl)) (hJ0_2_4_6_8 (v105, .slice Ao25 y107.length co25, .slice Ao24 y110.length co24, .slice Ao23 y113.length co23, .slice Ao22 y116.length co22) _ ⟨(sR HO109.out), (by (with_reducible repeat (first | apply Kd.S_alloc | apply Kd.S_drewN | apply Kd.S_drew)); exact Kd.S_mono HO112.out (fun _ hk => ⟨hk.1.1.2, ⟨hk.1.2, hk.2⟩⟩)), (sR HO115.out), (sR HO118.out), (sB BK101.out), (by repeat (first | (with_reducible first | exact HB.out | apply sLA | apply sLN | apply sLD | refine sLS ?_ GE101.out) | exact HB.out))⟩)
         ·skip
          rintro ⟨v105, v108, v111, v117⟩ w19 ⟨h0_, h1_, h2_, h3_, h4_⟩
          have n0_ : Aside0 (Kd.R (Kd.int .i64) 3 w19 w.heap.size (fun k_ => some k_ ≠ (v117 : Value).ownBlock) v108 y107) := ⟨h0_⟩
          have n1_ : Aside0 (Kd.S (Kd.slice 3 (Kd.int .i64)) 22 w19 w.heap.size (fun k_ => some k_ ≠ (v108 : Value).ownBlock ∧ some k_ ≠ (v117 : Value).ownBlock) v111 y110) := ⟨h1_⟩
          have n2_ : Aside0 (Kd.R (Kd.int .i64) 3 w19 w.heap.size (fun k_ => some k_ ≠ (v108 : Value).ownBlock) v117 y116) := ⟨h2_⟩
          have n3_ : Aside0 (w19.heap[gb101]? = some (.cells #[.slice none 0 0, .slice none 0 0, .slice none 0 0, .slice none 0 0, .int .i64 0] 25 (0, 0))) := ⟨h3_⟩
          have n4_ : Aside0 (Below w.heap.size w w19) := ⟨h4_⟩
          clear BK101
          clear HB
          clear h0_ h1_ h2_ h3_ h4_
          have HO109 := n0_
          have HO112 := n1_
          have HO118 := n2_
          have BK101 := n3_
          have HB := n4_
          clear n0_ n1_ n2_ n3_ n4_
          have hHeld := trivial
          refine norm_ (a' := ?_) ?_ ?_
          rotate_left
          ·simp only [putAll, Act.put, sI, sZ, sV]
           rfl
          refine one_ (i := 6) (N := some 22) (sM 12 511) rfl rfl (one_of HT_.out (by kernel_rfl)) (by decide) (fun K hK => ?_)
          refine Kd.R_make_step (Kd.int .i64) _ 3 (by rfl) (N := 22) rfl 22 _ _ rfl (l0.length : Int) rfl rfl Try.underlying22 (.int .i64 0) 8 info3 rfl (by decide) (by omega) 0 (ok := fun _ => True) (okp := fun _ => True) rfl (fun _ hk => hk) trivial (of_decide_eq_true (by first | (with_reducible assumption) | assumption)) (Nat.le_trans (Nat.mul_le_mul_right _ (of_decide_eq_true (by first | (with_reducible assumption) | assumption) : (l0.length : Int).toNat ≤ 35184372088832)) (by omega)) (Below.refl _ _) (Nat.le_refl _) ?_
          intro v114 w20 ho21 hb hg_ hnew_
          clear hg_ hnew_
          (first | rw [← Ny113.out] at ho21 | (simp only [Int.reduceToNat] at ho21; rw [← Ny113.out] at ho21))
          have n0_ := sA (Kd.R_elder' (sR HO109.out) (Kd.R_base ho21) hb)
          have n1_ := sA (Kd.S_elder' (by (with_reducible repeat (first | apply Kd.S_alloc | apply Kd.S_drewN | apply Kd.S_drew)); exact HO112.out) (Kd.R_base ho21) hb)
          have n2_ := sA (Kd.R_elder' (sR HO118.out) (Kd.R_base ho21) hb)
          have n3_ := sA (Kd.R_lower (Kd.R_new' (Kd.R_new' ho21 (Kd.R_lt (sR HO109.out))) (Kd.R_lt (sR HO118.out))) (below_size (by repeat (first | (with_reducible first | exact HB.out | apply sLA | apply sLN | apply sLD | refine sLS ?_ GE101.out) | exact HB.out))))
          have n4_ := sA (blk_below (sB BK101.out) hb)
          have n5_ := sA (below_step (by repeat (first | (with_reducible first | exact HB.out | apply sLA | apply sLN | apply sLD | refine sLS ?_ GE101.out) | exact HB.out)) hb)
          clear HO109
          clear HO112
          clear HO118
          clear BK101
          clear HB
          have HO109 := n0_
          have HO112 := n1_
          have HO118 := n2_
          have HO115 := n3_
          have BK101 := n4_
          have HB := n5_
          clear n0_ n1_ n2_ n3_ n4_ n5_
          clear hb ho21
          obtain ⟨Ao22, co22, eo22⟩ := Kd.R_slice HO118.out
          (first | subst eo22 | (injection eo22 with f1_ f2_ f3_; have f4_ := f1_.symm; have f5_ := f3_.symm; clear f1_ f2_ f3_; subst f4_; subst f5_))
          obtain ⟨Ao23, co23, eo23⟩ := Kd.R_slice HO115.out
          (first | subst eo23 | (injection eo23 with f1_ f2_ f3_; have f4_ := f1_.symm; have f5_ := f3_.symm; clear f1_ f2_ f3_; subst f4_; subst f5_))
          obtain ⟨Ao24, co24, eo24⟩ := Kd.S_slice HO112.out
          (first | subst eo24 | (injection eo24 with f1_ f2_ f3_; have f4_ := f1_.symm; have f5_ := f3_.symm; clear f1_ f2_ f3_; subst f4_; subst f5_))
          obtain ⟨Ao25, co25, eo25⟩ := Kd.R_slice HO109.out
          (first | subst eo25 | (injection eo25 with f1_ f2_ f3_; have f4_ := f1_.symm; have f5_ := f3_.symm; clear f1_ f2_ f3_; subst f4_; subst f5_))
          refine hK.out _ _ trivial (fun hHeld => ?_)
          clear hK K
          refine norm_ (a' := ?_) ?_ ?_
          rotate_left
          ·show Act.put _ (some 22) _ = _
           simp only [Act.put, sI, sZ, sV, i64_w, i32_w]
           rfl
          exact norm_ (by first | (simp only [putAll, Act.put, sI, sZ, sV]; done) | (simp only [putAll, Act.put, sI, sZ, sV]; rfl)) (hJ0_2_4_6_8 (v105, .slice Ao25 y107.length co25, .slice Ao24 y110.length co24, .slice Ao23 y113.length co23, .slice Ao22 y116.length co22) _ ⟨(sR (Kd.R_mono HO109.out (fun _ hk => ⟨hk.2, hk.1⟩))), (by (with_reducible repeat (first | apply Kd.S_alloc | apply Kd.S_drewN | apply Kd.S_drew)); exact Kd.S_mono HO112.out (fun _ hk => ⟨hk.1.1, ⟨hk.2, hk.1.2⟩⟩)), (sR (Kd.R_mono HO115.out (fun _ hk => ⟨hk.1.2, hk.2⟩))), (sR HO118.out), (sB BK101.out), (by repeat (first | (with_reducible first | exact HB.out | apply sLA | apply sLN | apply sLD | refine sLS ?_ GE101.out) | exact HB.out))⟩)
        ·skip
         rintro ⟨v105, v108, v111, v114⟩ w19 ⟨h0_, h1_, h2_, h3_, h4_⟩
         have n0_ : Aside0 (Kd.R (Kd.int .i64) 3 w19 w.heap.size (fun k_ => some k_ ≠ (v114 : Value).ownBlock) v108 y107) := ⟨h0_⟩
         have n1_ : Aside0 (Kd.S (Kd.slice 3 (Kd.int .i64)) 22 w19 w.heap.size (fun k_ => some k_ ≠ (v108 : Value).ownBlock ∧ some k_ ≠ (v114 : Value).ownBlock) v111 y110) := ⟨h1_⟩
         have n2_ : Aside0 (Kd.R (Kd.int .i64) 3 w19 w.heap.size (fun k_ => some k_ ≠ (v108 : Value).ownBlock) v114 y113) := ⟨h2_⟩
         have n3_ : Aside0 (w19.heap[gb101]? = some (.cells #[.slice none 0 0, .slice none 0 0, .slice none 0 0, .slice none 0 0, .int .i64 0] 25 (0, 0))) := ⟨h3_⟩
         have n4_ : Aside0 (Below w.heap.size w w19) := ⟨h4_⟩
         clear BK101
         clear HB
         clear h0_ h1_ h2_ h3_ h4_
         have HO109 := n0_
         have HO112 := n1_
         have HO115 := n2_
         have BK101 := n3_
         have HB := n4_
         clear n0_ n1_ n2_ n3_ n4_
         have hHeld := trivial
         refine norm_ (a' := ?_) ?_ ?_
         rotate_left
         ·simp only [putAll, Act.put, sI, sZ, sV]
          rfl
         refine one_ (i := 8) (N := some 24) (sM 12 511) rfl rfl (one_of HT_.out (by kernel_rfl)) (by decide) (fun K hK => ?_)
         refine Kd.R_make_step (Kd.int .i64) _ 3 (by rfl) (N := 24) rfl 22 _ _ rfl (l0.length : Int) rfl rfl Try.underlying22 (.int .i64 0) 8 info3 rfl (by decide) (by omega) 0 (ok := fun _ => True) (okp := fun _ => True) rfl (fun _ hk => hk) trivial (of_decide_eq_true (by first | (with_reducible assumption) | assumption)) (Nat.le_trans (Nat.mul_le_mul_right _ (of_decide_eq_true (by first | (with_reducible assumption) | assumption) : (l0.length : Int).toNat ≤ 35184372088832)) (by omega)) (Below.refl _ _) (Nat.le_refl _) ?_
         intro v117 w20 ho21 hb hg_ hnew_
         clear hg_ hnew_
         (first | rw [← Ny116.out] at ho21 | (simp only [Int.reduceToNat] at ho21; rw [← Ny116.out] at ho21))
         have n0_ := sA (Kd.R_elder' (sR HO109.out) (Kd.R_base ho21) hb)
         have n1_ := sA (Kd.S_elder' (by (with_reducible repeat (first | apply Kd.S_alloc | apply Kd.S_drewN | apply Kd.S_drew)); exact HO112.out) (Kd.R_base ho21) hb)
         have n2_ := sA (Kd.R_elder' (sR HO115.out) (Kd.R_base ho21) hb)
         have n3_ := sA (Kd.R_lower (Kd.R_new' (Kd.R_new' ho21 (Kd.R_lt (sR HO109.out))) (Kd.R_lt (sR HO115.out))) (below_size (by repeat (first | (with_reducible first | exact HB.out | apply sLA | apply sLN | apply sLD | refine sLS ?_ GE101.out) | exact HB.out))))
         have n4_ := sA (blk_below (sB BK101.out) hb)
         have n5_ := sA (below_step (by repeat (first | (with_reducible first | exact HB.out | apply sLA | apply sLN | apply sLD | refine sLS ?_ GE101.out) | exact HB.out)) hb)
         clear HO109
         clear HO112
         clear HO115
         clear BK101
         clear HB
         have HO109 := n0_
         have HO112 := n1_
         have HO115 := n2_
         have HO118 := n3_
         have BK101 := n4_
         have HB := n5_
         clear n0_ n1_ n2_ n3_ n4_ n5_
         clear hb ho21
         obtain ⟨Ao22, co22, eo22⟩ := Kd.R_slice HO118.out
         (first | subst eo22 | (injection eo22 with f1_ f2_ f3_; have f4_ := f1_.symm; have f5_ := f3_.symm; clear f1_ f2_ f3_; subst f4_; subst f5_))
         obtain ⟨Ao23, co23, eo23⟩ := Kd.R_slice HO115.out
         (first | subst eo23 | (injection eo23 with f1_ f2_ f3_; have f4_ := f1_.symm; have f5_ := f3_.symm; clear f1_ f2_ f3_; subst f4_; subst f5_))
         obtain ⟨Ao24, co24, eo24⟩ := Kd.S_slice HO112.out
         (first | subst eo24 | (injection eo24 with f1_ f2_ f3_; have f4_ := f1_.symm; have f5_ := f3_.symm; clear f1_ f2_ f3_; subst f4_; subst f5_))
         obtain ⟨Ao25, co25, eo25⟩ := Kd.R_slice HO109.out
         (first | subst eo25 | (injection eo25 with f1_ f2_ f3_; have f4_ := f1_.symm; have f5_ := f3_.symm; clear f1_ f2_ f3_; subst f4_; subst f5_))
         refine hK.out _ _ trivial (fun hHeld => ?_)
         clear hK K
         refine norm_ (a' := ?_) ?_ ?_
         rotate_left
         ·show Act.put _ (some 24) _ = _
          simp only [Act.put, sI, sZ, sV, i64_w, i32_w]
          rfl
         exact norm_ (by first | (simp only [putAll, Act.put, sI, sZ, sV]; done) | (simp only [putAll, Act.put, sI, sZ, sV]; rfl)) (hJ0_2_4_6_8 (v105, .slice Ao25 y107.length co25, .slice Ao24 y110.length co24, .slice Ao23 y113.length co23, .slice Ao22 y116.length co22) _ ⟨(sR HO109.out), (by (with_reducible repeat (first | apply Kd.S_alloc | apply Kd.S_drewN | apply Kd.S_drew)); exact Kd.S_mono HO112.out (fun _ hk => ⟨hk.1.1, ⟨hk.1.2, hk.2⟩⟩)), (sR HO115.out), (sR (Kd.R_mono HO118.out (fun _ hk => ⟨hk.1.2, hk.2⟩))), (sB BK101.out), (by repeat (first | (with_reducible first | exact HB.out | apply sLA | apply sLN | apply sLD | refine sLS ?_ GE101.out) | exact HB.out))⟩)
       rintro ⟨v105, v108, v111, v114, v117⟩ w25 ⟨h0_, h1_, h2_, h3_, h4_, h5_⟩
       have n0_ : Aside0 (Kd.R (Kd.int .i64) 3 w25 w.heap.size (fun k_ => some k_ ≠ (v114 : Value).ownBlock ∧ some k_ ≠ (v117 : Value).ownBlock) v108 y107) := ⟨h0_⟩
       have n1_ : Aside0 (Kd.S (Kd.slice 3 (Kd.int .i64)) 22 w25 w.heap.size (fun k_ => some k_ ≠ (v108 : Value).ownBlock ∧ some k_ ≠ (v114 : Value).ownBlock ∧ some k_ ≠ (v117 : Value).ownBlock) v111 y110) := ⟨h1_⟩
       have n2_ : Aside0 (Kd.R (Kd.int .i64) 3 w25 w.heap.size (fun k_ => some k_ ≠ (v108 : Value).ownBlock ∧ some k_ ≠ (v117 : Value).ownBlock) v114 y113) := ⟨h2_⟩
       have n3_ : Aside0 (Kd.R (Kd.int .i64) 3 w25 w.heap.size (fun k_ => some k_ ≠ (v108 : Value).ownBlock ∧ some k_ ≠ (v114 : Value).ownBlock) v117 y116) := ⟨h3_⟩
       have n4_ : Aside0 (w25.heap[gb101]? = some (.cells #[.slice none 0 0, .slice none 0 0, .slice none 0 0, .slice none 0 0, .int .i64 0] 25 (0, 0))) := ⟨h4_⟩
       have n5_ : Aside0 (Below w.heap.size w w25) := ⟨h5_⟩
       clear BK101
       clear HB
       clear h0_ h1_ h2_ h3_ h4_ h5_
       have HO109 := n0_
       have HO112 := n1_
       have HO115 := n2_
       have HO118 := n3_
       have BK101 := n4_
       have HB := n5_
       clear n0_ n1_ n2_ n3_ n4_ n5_
       have hHeld := trivial
       obtain ⟨Ao26, co26, eo26⟩ := Kd.R_slice HO118.out
       (first | subst eo26 | (injection eo26 with f1_ f2_ f3_; have f4_ := f1_.symm; have f5_ := f3_.symm; clear f1_ f2_ f3_; subst f4_; subst f5_))
       obtain ⟨Ao27, co27, eo27⟩ := Kd.R_slice HO115.out
       (first | subst eo27 | (injection eo27 with f1_ f2_ f3_; have f4_ := f1_.symm; have f5_ := f3_.symm; clear f1_ f2_ f3_; subst f4_; subst f5_))
       obtain ⟨Ao28, co28, eo28⟩ := Kd.S_slice HO112.out
       (first | subst eo28 | (injection eo28 with f1_ f2_ f3_; have f4_ := f1_.symm; have f5_ := f3_.symm; clear f1_ f2_ f3_; subst f4_; subst f5_))
       obtain ⟨Ao29, co29, eo29⟩ := Kd.R_slice HO109.out
       (first | subst eo29 | (injection eo29 with f1_ f2_ f3_; have f4_ := f1_.symm; have f5_ := f3_.symm; clear f1_ f2_ f3_; subst f4_; subst f5_))
       refine norm_ (a' := ?_) ?_ ?_
       rotate_left
       ·simp only [putAll, Act.put, sI, sZ, sV]
        rfl
       refine pure_ (i := 9) (N := some 25) (v := ?_) (a' := ?_) (sM 12 1023) rfl rfl (any_of HT_.out (by kernel_rfl)) (fun _ _ _ h => h) (Or.inl ⟨by rfl, ?_⟩) ?_ ?_
       rotate_left
       ·intro w'
        go_simp
        with_reducible rfl
       rotate_left
       ·simp only [Act.put, sI, sZ, sV, i64_w, i32_w]
        rfl
       refine one_ (i := 10) (N := none) (sM 12 2047) rfl rfl (one_of HT_.out (by kernel_rfl)) (by decide) (fun K hK => ?_)
       have hs30 : w25.cell? ⟨gb101, 0, none⟩ = some (.slice none 0 0) := sC BK101 0 rfl
       have hfs30 := blk_frozen BK101.out 0
       have hs31 : w25.cell? ⟨gb101, 1, none⟩ = some (.slice none 0 0) := sC BK101 1 rfl
       have hfs31 := blk_frozen BK101.out 1
       have hs32 : w25.cell? ⟨gb101, 2, none⟩ = some (.slice none 0 0) := sC BK101 2 rfl
       have hfs32 := blk_frozen BK101.out 2
       have hs33 : w25.cell? ⟨gb101, 3, none⟩ = some (.slice none 0 0) := sC BK101 3 rfl
       have hfs33 := blk_frozen BK101.out 3
       have hs34 : w25.cell? ⟨gb101, 4, none⟩ = some (.int .i64 0) := sC BK101 4 rfl
       have hfs34 := blk_frozen BK101.out 4
       refine skip_ (w1 := ?_) (by rfl) rfl ?_ ?_
       rotate_left
       ·go_simp
        rfl
       refine hK.out _ _ trivial (fun hHeld => ?_)
       clear hK K
       refine pure_ (i := 11) (N := some 3) (v := ?_) (a' := ?_) (sM 12 4095) rfl rfl (any_of HT_.out (by kernel_rfl)) (fun _ _ _ h => h) (Or.inl ⟨by rfl, ?_⟩) ?_ ?_
       rotate_left
       ·intro w'
        go_simp
        with_reducible rfl
       rotate_left
       ·simp only [Act.put, sI, sZ, sV, i64_w, i32_w]
        rfl
       refine done_ (done_of HT_.out (by kernel_rfl)) ?_
       try go_wp2
       refine bodyPost_ret (results_ct rfl _ _ gb101 25 #[.slice Ao29 y107.length co29, .slice Ao28 y110.length co28, .slice Ao27 y113.length co27, .slice Ao26 y116.length co26, .int .i64 0] (0, 0) _ rfl (by (with_reducible repeat first | apply blk_drewN | apply blk_drew | apply blk_alloc); refine blk_put (cs := #[.slice Ao29 y107.length co29, .slice Ao28 y110.length co28, .slice Ao27 y113.length co27, .slice Ao26 y116.length co26, .int .i64 0]) ?_ 4 _ rfl; (with_reducible repeat first | apply blk_drewN | apply blk_drew | apply blk_alloc); refine blk_put (cs := #[.slice Ao29 y107.length co29, .slice Ao28 y110.length co28, .slice Ao27 y113.length co27, .slice none 0 0, .int .i64 0]) ?_ 3 _ rfl; (with_reducible repeat first | apply blk_drewN | apply blk_drew | apply blk_alloc); refine blk_put (cs := #[.slice Ao29 y107.length co29, .slice Ao28 y110.length co28, .slice none 0 0, .slice none 0 0, .int .i64 0]) ?_ 2 _ rfl; (with_reducible repeat first | apply blk_drewN | apply blk_drew | apply blk_alloc); refine blk_put (cs := #[.slice Ao29 y107.length co29, .slice none 0 0, .slice none 0 0, .slice none 0 0, .int .i64 0]) ?_ 1 _ rfl; (with_reducible repeat first | apply blk_drewN | apply blk_drew | apply blk_alloc); refine blk_put (cs := #[.slice none 0 0, .slice none 0 0, .slice none 0 0, .slice none 0 0, .int .i64 0]) ?_ 0 _ rfl; (with_reducible repeat first | apply blk_drewN | apply blk_drew | apply blk_alloc); exact BK101.out) Try.underlying25 rfl (by kernel_rfl)) rfl ?_
       exact ⟨_, _, _, _, by first | rfl | (simp [errW_none, errW_some] <;> rfl) | (simp [*, errW_none, errW_some] <;> rfl), by (with_reducible repeat (first | apply Kd.R_alloc | apply Kd.R_drewN | apply Kd.R_drew)); exact Kd.R_mono (Kd.R_far (p := ⟨gb101, 4, none⟩) (Kd.R_far (p := ⟨gb101, 3, none⟩) (Kd.R_far (p := ⟨gb101, 2, none⟩) (Kd.R_far (p := ⟨gb101, 1, none⟩) (Kd.R_far (p := ⟨gb101, 0, none⟩) (Kd.R_types HO109.out BK101.out (by decide)) (fun _ hk => hk.2) (.slice Ao29 y107.length co29)) (fun _ hk => hk.2) (.slice Ao28 y110.length co28)) (fun _ hk => hk.2) (.slice Ao27 y113.length co27)) (fun _ hk => hk.2) (.slice Ao26 y116.length co26)) (fun _ hk => hk.2) (.int .i64 0)) (fun _ hk => ⟨hk.1.1, hk.1.2⟩), by (with_reducible repeat (first | apply Kd.S_alloc | apply Kd.S_drewN | apply Kd.S_drew)); exact Kd.S_mono (Kd.S_far (p := ⟨gb101, 4, none⟩) (Kd.S_far (p := ⟨gb101, 3, none⟩) (Kd.S_far (p := ⟨gb101, 2, none⟩) (Kd.S_far (p := ⟨gb101, 1, none⟩) (Kd.S_far (p := ⟨gb101, 0, none⟩) (Kd.S_types HO112.out BK101.out (by decide)) (fun _ hk => hk.2) (.slice Ao29 y107.length co29)) (fun _ hk => hk.2) (.slice Ao28 y110.length co28)) (fun _ hk => hk.2) (.slice Ao27 y113.length co27)) (fun _ hk => hk.2) (.slice Ao26 y116.length co26)) (fun _ hk => hk.2) (.int .i64 0)) (fun _ hk => ⟨hk.1.1, ⟨hk.1.2.1, hk.1.2.2⟩⟩), by (with_reducible repeat (first | apply Kd.R_alloc | apply Kd.R_drewN | apply Kd.R_drew)); exact Kd.R_mono (Kd.R_far (p := ⟨gb101, 4, none⟩) (Kd.R_far (p := ⟨gb101, 3, none⟩) (Kd.R_far (p := ⟨gb101, 2, none⟩) (Kd.R_far (p := ⟨gb101, 1, none⟩) (Kd.R_far (p := ⟨gb101, 0, none⟩) (Kd.R_types HO115.out BK101.out (by decide)) (fun _ hk => hk.2) (.slice Ao29 y107.length co29)) (fun _ hk => hk.2) (.slice Ao28 y110.length co28)) (fun _ hk => hk.2) (.slice Ao27 y113.length co27)) (fun _ hk => hk.2) (.slice Ao26 y116.length co26)) (fun _ hk => hk.2) (.int .i64 0)) (fun _ hk => ⟨hk.1.1, hk.1.2⟩), by (with_reducible repeat (first | apply Kd.R_alloc | apply Kd.R_drewN | apply Kd.R_drew)); exact Kd.R_mono (Kd.R_far (p := ⟨gb101, 4, none⟩) (Kd.R_far (p := ⟨gb101, 3, none⟩) (Kd.R_far (p := ⟨gb101, 2, none⟩) (Kd.R_far (p := ⟨gb101, 1, none⟩) (Kd.R_far (p := ⟨gb101, 0, none⟩) (Kd.R_types HO118.out BK101.out (by decide)) (fun _ hk => hk.2) (.slice Ao29 y107.length co29)) (fun _ hk => hk.2) (.slice Ao28 y110.length co28)) (fun _ hk => hk.2) (.slice Ao27 y113.length co27)) (fun _ hk => hk.2) (.slice Ao26 y116.length co26)) (fun _ hk => hk.2) (.int .i64 0)) (fun _ hk => ⟨hk.1.1, hk.1.2⟩), by repeat (first | (with_reducible first | exact HB.out | apply sLA | apply sLN | apply sLD | refine sLS ?_ GE101.out) | exact HB.out)⟩
      ·rw [if_neg c9] at H
       exact absurd H (by simp)
     ·rw [if_neg c8] at H
      exact absurd H (by simp)
    ·rw [if_neg c7] at H
     exact absurd H (by simp)
   ·rw [if_neg c6] at H
    exact absurd H (by simp)
  ·replace c5 := Bool.eq_false_iff.mpr c5
   subst c5
   have H1 : (some (([] : List Int), ([] : List (List Int)), ([] : List Int), ([] : List Int), 0, false)) = some (r1, r2, r3, r4, r5, r6) := by rw [if_neg (show ¬ (false = true) by decide)] at H; exact H
   clear H
   have H := H1
   clear H1
   simp only [Option.some.injEq, Prod.mk.injEq] at H
   obtain ⟨rfl, rfl, rfl, rfl, rfl, rfl⟩ := H
   go_enter Try.func5, Try.ntmps5
   go_wp2_with (first | ((with_reducible refine gate_dst (N := 2) rfl ?_); refine box_event ?hg (N := 2) ?hd (cs := #[.slice none 0 0, .slice none 0 0, .slice none 0 0, .slice none 0 0, .int .i64 0]) (t := 25) ?hr ?_; (case hd => rfl); (case hg => rfl); (case hr => first | (go_simp; done) | (go_simp; rfl)); intro gb101 hg w35 hbox hb; have n0_ := sA (below_step (by repeat (first | (with_reducible first | exact HB.out | apply sLA | apply sLN | apply sLD) | exact HB.out)) hb); have n1_ := sA (hbox); have n2_ := sA ((by rw [hg]; exact (below_size (by repeat (first | (with_reducible first | exact HB.out | apply sLA | apply sLN | apply sLD) | exact HB.out))) : w.heap.size ≤ gb101)); have n3_ := sA ((by rw [hg]; exact (below_size (by repeat (first | (with_reducible first | exact HB.out | apply sLA | apply sLN | apply sLD) | exact HB.out))) : w.heap.size ≤ gb101)); clear HB; have HB := n0_; have BK101 := n1_; have GW101 := n2_; have GE101 := n3_; clear n0_ n1_ n2_ n3_; clear hb hbox hg) | ((with_reducible refine gate_callee (f := 17) rfl ?_); refine goesL_ (some 8) rfl rfl Try.func17 (by kernel_rfl) rfl #[.int .i64 (l0.length : Int), .int .i64 1, .int .i64 4] rfl (by (try simp only [List.map_toArray, List.map_cons, List.map_nil]); first | done | rfl | (simp only [List.length_drop, List.length_take]; rfl)) ?_; (with_reducible refine (spec_l1In.calls (l0.length : Int) 1 4 true _ A2.out).mono ?_); rintro e w' ⟨rfl, ⟨nd, rfl⟩⟩; refine ⟨_, rfl, ?_⟩; (try (rw [drewN_self w35]; generalize hq_ : World.drewN w35 _ = w35; have n0_ : Aside0 (w35.heap[gb101]? = some (.cells #[.slice none 0 0, .slice none 0 0, .slice none 0 0, .slice none 0 0, .int .i64 0] 25 (0, 0))) := ⟨by rw [← hq_]; exact (sB BK101.out)⟩; have n1_ : Aside0 (Below w.heap.size w w35) := ⟨by rw [← hq_]; exact (by repeat (first | (with_reducible first | exact HB.out | apply sLA | apply sLN | apply sLD | refine sLS ?_ GE101.out) | exact HB.out))⟩; clear BK101 HB hq_; have BK101 := n0_; have HB := n1_; clear n0_ n1_))) | (go_at_call 18; (with_reducible refine (spec_l1All.calls k _ _ l0 20 100 false _ ?side1 ?side2 A4.out).mono ?_); (case side1 => repeat (first | exact (Kd.C_below HR0.out HB.out) | (with_reducible refine Kd.C_alloc ?_ _) | (with_reducible refine Kd.C_drewN ?_ _) | (with_reducible refine Kd.C_drew ?_))); (case side2 => exact HC0.out); rintro e w' ⟨rfl, ⟨nd, rfl⟩⟩; (try (rw [drewN_self w35]; generalize hq_ : World.drewN w35 _ = w35; have n0_ : Aside0 (w35.heap[gb101]? = some (.cells #[.slice none 0 0, .slice none 0 0, .slice none 0 0, .slice none 0 0, .int .i64 0] 25 (0, 0))) := ⟨by rw [← hq_]; exact (sB BK101.out)⟩; have n1_ : Aside0 (Below w.heap.size w w35) := ⟨by rw [← hq_]; exact (by repeat (first | (with_reducible first | exact HB.out | apply sLA | apply sLN | apply sLD | refine sLS ?_ GE101.out) | exact HB.out))⟩; clear BK101 HB hq_; have BK101 := n0_; have HB := n1_; clear n0_ n1_)); have hcz36_0 : w35.cell? ⟨gb101, 0, none⟩ = some (.slice none 0 0) := sC BK101 0 rfl; have hcz36_1 : w35.cell? ⟨gb101, 1, none⟩ = some (.slice none 0 0) := sC BK101 1 rfl; have hcz36_2 : w35.cell? ⟨gb101, 2, none⟩ = some (.slice none 0 0) := sC BK101 2 rfl; have hcz36_3 : w35.cell? ⟨gb101, 3, none⟩ = some (.slice none 0 0) := sC BK101 3 rfl; have hcz36_4 : w35.cell? ⟨gb101, 4, none⟩ = some (.int .i64 0) := sC BK101 4 rfl; have hfz36_0 := blk_frozen BK101.out 0; have hfz36_1 := blk_frozen BK101.out 1; have hfz36_2 := blk_frozen BK101.out 2; have hfz36_3 := blk_frozen BK101.out 3; have hfz36_4 := blk_frozen BK101.out 4))
   refine bodyPost_ret (results_ct rfl _ _ gb101 25 #[.slice none 0 0, .slice none 0 0, .slice none 0 0, .slice none 0 0, .int .i64 0] (0, 0) _ rfl (by (with_reducible repeat first | apply blk_drewN | apply blk_drew | apply blk_alloc); refine blk_put (cs := #[.slice none 0 0, .slice none 0 0, .slice none 0 0, .slice none 0 0, .int .i64 0]) ?_ 4 _ rfl; (with_reducible repeat first | apply blk_drewN | apply blk_drew | apply blk_alloc); refine blk_put (cs := #[.slice none 0 0, .slice none 0 0, .slice none 0 0, .slice none 0 0, .int .i64 0]) ?_ 3 _ rfl; (with_reducible repeat first | apply blk_drewN | apply blk_drew | apply blk_alloc); refine blk_put (cs := #[.slice none 0 0, .slice none 0 0, .slice none 0 0, .slice none 0 0, .int .i64 0]) ?_ 2 _ rfl; (with_reducible repeat first | apply blk_drewN | apply blk_drew | apply blk_alloc); refine blk_put (cs := #[.slice none 0 0, .slice none 0 0, .slice none 0 0, .slice none 0 0, .int .i64 0]) ?_ 1 _ rfl; (with_reducible repeat first | apply blk_drewN | apply blk_drew | apply blk_alloc); refine blk_put (cs := #[.slice none 0 0, .slice none 0 0, .slice none 0 0, .slice none 0 0, .int .i64 0]) ?_ 0 _ rfl; (with_reducible repeat first | apply blk_drewN | apply blk_drew | apply blk_alloc); exact BK101.out) Try.underlying25 rfl (by kernel_rfl)) rfl ?_
   exact ⟨_, _, _, _, by first | rfl | (simp [errW_none, errW_some] <;> rfl) | (simp [*, errW_none, errW_some] <;> rfl), by first | exact Kd.R_nil _ _ _ _ _ | exact Kd.N_nil _ _ _ _ _ | exact Kd.V_nil _ _ _ _ _ | exact Kd.Q_nil _ _ _ _ _ | exact Kd.S_nil _ _ _ _ _, by first | exact Kd.S_nil _ _ _ _ _ | exact Kd.N_nil _ _ _ _ _ | exact Kd.V_nil _ _ _ _ _ | exact Kd.Q_nil _ _ _ _ _ | exact Kd.R_nil _ _ _ _ _, by first | exact Kd.R_nil _ _ _ _ _ | exact Kd.N_nil _ _ _ _ _ | exact Kd.V_nil _ _ _ _ _ | exact Kd.Q_nil _ _ _ _ _ | exact Kd.S_nil _ _ _ _ _, by first | exact Kd.R_nil _ _ _ _ _ | exact Kd.N_nil _ _ _ _ _ | exact Kd.V_nil _ _ _ _ _ | exact Kd.Q_nil _ _ _ _ _ | exact Kd.S_nil _ _ _ _ _, by repeat (first | (with_reducible first | exact HB.out | apply sLA | apply sLN | apply sLD | refine sLS ?_ GE101.out) | exact HB.out)⟩
 ·replace c3 := Bool.eq_false_iff.mpr c3
  subst c3
  have H1 : (some (([] : List Int), ([] : List (List Int)), ([] : List Int), ([] : List Int), 0, false)) = some (r1, r2, r3, r4, r5, r6) := by rw [if_neg (show ¬ (false = true) by decide)] at H; exact H
  clear H
  have H := H1
  clear H1
  simp only [Option.some.injEq, Prod.mk.injEq] at H
  obtain ⟨rfl, rfl, rfl, rfl, rfl, rfl⟩ := H
  go_enter Try.func5, Try.ntmps5
  go_wp2_with (first | ((with_reducible refine gate_dst (N := 2) rfl ?_); refine box_event ?hg (N := 2) ?hd (cs := #[.slice none 0 0, .slice none 0 0, .slice none 0 0, .slice none 0 0, .int .i64 0]) (t := 25) ?hr ?_; (case hd => rfl); (case hg => rfl); (case hr => first | (go_simp; done) | (go_simp; rfl)); intro gb101 hg w37 hbox hb; have n0_ := sA (below_step (by repeat (first | (with_reducible first | exact HB.out | apply sLA | apply sLN | apply sLD) | exact HB.out)) hb); have n1_ := sA (hbox); have n2_ := sA ((by rw [hg]; exact (below_size (by repeat (first | (with_reducible first | exact HB.out | apply sLA | apply sLN | apply sLD) | exact HB.out))) : w.heap.size ≤ gb101)); have n3_ := sA ((by rw [hg]; exact (below_size (by repeat (first | (with_reducible first | exact HB.out | apply sLA | apply sLN | apply sLD) | exact HB.out))) : w.heap.size ≤ gb101)); clear HB; have HB := n0_; have BK101 := n1_; have GW101 := n2_; have GE101 := n3_; clear n0_ n1_ n2_ n3_; clear hb hbox hg) | ((with_reducible refine gate_callee (f := 17) rfl ?_); refine goesL_ (some 8) rfl rfl Try.func17 (by kernel_rfl) rfl #[.int .i64 (l0.length : Int), .int .i64 1, .int .i64 4] rfl (by (try simp only [List.map_toArray, List.map_cons, List.map_nil]); first | done | rfl | (simp only [List.length_drop, List.length_take]; rfl)) ?_; (with_reducible refine (spec_l1In.calls (l0.length : Int) 1 4 false _ A2.out).mono ?_); rintro e w' ⟨rfl, ⟨nd, rfl⟩⟩; refine ⟨_, rfl, ?_⟩; (try (rw [drewN_self w37]; generalize hq_ : World.drewN w37 _ = w37; have n0_ : Aside0 (w37.heap[gb101]? = some (.cells #[.slice none 0 0, .slice none 0 0, .slice none 0 0, .slice none 0 0, .int .i64 0] 25 (0, 0))) := ⟨by rw [← hq_]; exact (sB BK101.out)⟩; have n1_ : Aside0 (Below w.heap.size w w37) := ⟨by rw [← hq_]; exact (by repeat (first | (with_reducible first | exact HB.out | apply sLA | apply sLN | apply sLD | refine sLS ?_ GE101.out) | exact HB.out))⟩; clear BK101 HB hq_; have BK101 := n0_; have HB := n1_; clear n0_ n1_)); have hcz38_0 : w37.cell? ⟨gb101, 0, none⟩ = some (.slice none 0 0) := sC BK101 0 rfl; have hcz38_1 : w37.cell? ⟨gb101, 1, none⟩ = some (.slice none 0 0) := sC BK101 1 rfl; have hcz38_2 : w37.cell? ⟨gb101, 2, none⟩ = some (.slice none 0 0) := sC BK101 2 rfl; have hcz38_3 : w37.cell? ⟨gb101, 3, none⟩ = some (.slice none 0 0) := sC BK101 3 rfl; have hcz38_4 : w37.cell? ⟨gb101, 4, none⟩ = some (.int .i64 0) := sC BK101 4 rfl; have hfz38_0 := blk_frozen BK101.out 0; have hfz38_1 := blk_frozen BK101.out 1; have hfz38_2 := blk_frozen BK101.out 2; have hfz38_3 := blk_frozen BK101.out 3; have hfz38_4 := blk_frozen BK101.out 4))
  refine bodyPost_ret (results_ct rfl _ _ gb101 25 #[.slice none 0 0, .slice none 0 0, .slice none 0 0, .slice none 0 0, .int .i64 0] (0, 0) _ rfl (by (with_reducible repeat first | apply blk_drewN | apply blk_drew | apply blk_alloc); refine blk_put (cs := #[.slice none 0 0, .slice none 0 0, .slice none 0 0, .slice none 0 0, .int .i64 0]) ?_ 4 _ rfl; (with_reducible repeat first | apply blk_drewN | apply blk_drew | apply blk_alloc); refine blk_put (cs := #[.slice none 0 0, .slice none 0 0, .slice none 0 0, .slice none 0 0, .int .i64 0]) ?_ 3 _ rfl; (with_reducible repeat first | apply blk_drewN | apply blk_drew | apply blk_alloc); refine blk_put (cs := #[.slice none 0 0, .slice none 0 0, .slice none 0 0, .slice none 0 0, .int .i64 0]) ?_ 2 _ rfl; (with_reducible repeat first | apply blk_drewN | apply blk_drew | apply blk_alloc); refine blk_put (cs := #[.slice none 0 0, .slice none 0 0, .slice none 0 0, .slice none 0 0, .int .i64 0]) ?_ 1 _ rfl; (with_reducible repeat first | apply blk_drewN | apply blk_drew | apply blk_alloc); refine blk_put (cs := #[.slice none 0 0, .slice none 0 0, .slice none 0 0, .slice none 0 0, .int .i64 0]) ?_ 0 _ rfl; (with_reducible repeat first | apply blk_drewN | apply blk_drew | apply blk_alloc); exact BK101.out) Try.underlying25 rfl (by kernel_rfl)) rfl ?_
  exact ⟨_, _, _, _, by first | rfl | (simp [errW_none, errW_some] <;> rfl) | (simp [*, errW_none, errW_some] <;> rfl), by first | exact Kd.R_nil _ _ _ _ _ | exact Kd.N_nil _ _ _ _ _ | exact Kd.V_nil _ _ _ _ _ | exact Kd.Q_nil _ _ _ _ _ | exact Kd.S_nil _ _ _ _ _, by first | exact Kd.S_nil _ _ _ _ _ | exact Kd.N_nil _ _ _ _ _ | exact Kd.V_nil _ _ _ _ _ | exact Kd.Q_nil _ _ _ _ _ | exact Kd.R_nil _ _ _ _ _, by first | exact Kd.R_nil _ _ _ _ _ | exact Kd.N_nil _ _ _ _ _ | exact Kd.V_nil _ _ _ _ _ | exact Kd.Q_nil _ _ _ _ _ | exact Kd.S_nil _ _ _ _ _, by first | exact Kd.R_nil _ _ _ _ _ | exact Kd.N_nil _ _ _ _ _ | exact Kd.V_nil _ _ _ _ _ | exact Kd.Q_nil _ _ _ _ _ | exact Kd.S_nil _ _ _ _ _, by repeat (first | (with_reducible first | exact HB.out | apply sLA | apply sLN | apply sLD | refine sLS ?_ GE101.out) | exact HB.out)⟩

end Go.Proofs.Ytpdpdfccgeegaaa.P

namespace Go.Proofs.Ytpdpdfccgeegaaa.P
open Go.RowKit Go.Proofs.YtpdpdfccgeegaaaW.PrintWords Go.Proofs.YtpdpdfccgeegaaaW.PrintLast Go.Proofs.YtpdpdfccgeegaaaW.PrintMore
attribute [local go_sem] max2_int min2_int max_two min_two max_three min_three max_four min_four
set_option linter.unusedVariables false
set_option linter.unusedSimpArgs false

/-! ### laws_toIntS: function 6 -/
def laws_toIntS.l0 : Nat → List Int → List Int → Int → Option (List Int)
  | 0, _, _, _ => none
  | k + 1, x0, x3, x4 => if x4 < (x0.length : Int) then (if 0 ≤ x4 then (if x4 < (x3.length : Int) then (laws_toIntS.l0 k x0 (x3.set (x4 : Int).toNat (rd x0 x4)) (wrap64 (x4 + 1))) else (none)) else (none)) else (some x3)
def laws_toIntS.f (k : Nat) (l0 : List Int) : Option (List Int) := if 0 ≤ (l0.length : Int) then (if ((l0.length : Int) : Int).toNat ≤ 35184372088832 then (laws_toIntS.l0 k l0 (List.replicate ((l0.length : Int) : Int).toNat 0) 0) else (none)) else (none)
theorem laws_toIntS.mono_l : ∀ k, (∀ y0 y1 y2, LeO (laws_toIntS.l0 k y0 y1 y2) (laws_toIntS.l0 (k + 1) y0 y1 y2))
  | 0 => fun _ _ _ r h => by simp [laws_toIntS.l0] at h
  | k + 1 => by
    have ih0 := laws_toIntS.mono_l k
    · intro y0 y1 y2
      unfold laws_toIntS.l0
      repeat' first
      | (with_reducible exact ih0 _ _ _)
      | (with_reducible exact LeO.refl _)
      | (with_reducible exact LeO.none _)
      | (with_reducible refine LeO.ite ?_ ?_)
      | (with_reducible refine LeO.bind ?_ (fun _ => ?_))
      | exact ih0 _ _ _
      | exact LeO.none _
      | refine LeO.ite ?_ ?_
      | refine LeO.bind ?_ (fun _ => ?_)
theorem laws_toIntS.mono : ∀ a0 k, LeO (laws_toIntS.f k a0) (laws_toIntS.f (k + 1) a0) := by
  intro a0 k
  have ih0 := laws_toIntS.mono_l k
  unfold laws_toIntS.f
  repeat' first
      | (with_reducible exact ih0 _ _ _)
      | (with_reducible exact LeO.refl _)
      | (with_reducible exact LeO.none _)
      | (with_reducible refine LeO.ite ?_ ?_)
      | (with_reducible refine LeO.bind ?_ (fun _ => ?_))
      | exact ih0 _ _ _
      | exact LeO.none _
      | refine LeO.ite ?_ ?_
      | refine LeO.bind ?_ (fun _ => ?_)
set_option maxHeartbeats 8000000 in
set_option maxRecDepth 100000 in
theorem laws_toIntS.calls (k : Nat) (A0 : Option Addr) (c0 : Nat) (l0 : List Int) (r : List Int) (w : World) (hr0 : Kd.C (Kd.int .i64) w A0 l0.length l0) (hc0 : l0.length ≤ c0) (h : laws_toIntS.f k l0 = some r) :
  Calls Try.prog 6 #[.slice A0 l0.length c0] w fun e w' => ∃ v0_ : Value, e = .returned (v0_) ∧ Kd.R (Kd.int .i64) 3 w' w.heap.size (fun _ => True) v0_ r ∧ Below w.heap.size w w' := by
 have HR0 := sA hr0
 have HC0 := sA hc0
 clear hr0 hc0
 have HB := sA (Below.refl w.heap.size w)
 have H : (if 0 ≤ (l0.length : Int) then (if ((l0.length : Int) : Int).toNat ≤ 35184372088832 then (laws_toIntS.l0 k l0 (List.replicate ((l0.length : Int) : Int).toNat 0) 0) else (none)) else (none)) = some r := h
 clear h
 by_cases c2 : 0 ≤ (l0.length : Int)
 ·rw [if_pos c2] at H
  have c2b0 := eq_true c2
  have c2b1 : decide (0 ≤ (l0.length : Int)) = true := decide_eq_true c2
  clear c2
  by_cases c3 : ((l0.length : Int) : Int).toNat ≤ 35184372088832
  ·rw [if_pos c3] at H
   have c3b0 := eq_true c3
   have c3b1 : decide (((l0.length : Int) : Int).toNat ≤ 35184372088832) = true := decide_eq_true c3
   clear c3
   obtain ⟨y101, hy101⟩ : ∃ y_ : List Int, y_ = (List.replicate ((l0.length : Int) : Int).toNat 0) := ⟨_, rfl⟩
   replace H : (laws_toIntS.l0 k l0 y101 0) = some r := by first | (rw [hy101]; with_reducible exact H) | (have H2_ := (Option.bind_some _ _).symm.trans H; rw [hy101]; with_reducible exact H2_) | (have H2_ := (Option.bind_some _ _).symm.trans H; with_reducible exact H2_) | with_reducible exact H | (rw [hy101]; exact H) | exact H
   have Ny101 := sA hy101
   clear hy101
   have H' := sA H
   clear H
   go_enter Try.func6, Try.ntmps6
   go_wp2_with (first | ((with_reducible refine gate_dst (N := 7) rfl ?_); refine Kd.R_make (Kd.int .i64) _ 3 rfl (N := 7) rfl 22 _ _ rfl (l0.length : Int) rfl rfl Try.underlying22 (.int .i64 0) 8 info3 rfl (by decide) (by omega) 0 (ok := fun _ => True) (okp := fun _ => True) rfl (fun _ hk => hk) trivial (of_decide_eq_true (by first | (with_reducible assumption) | assumption)) (Nat.le_trans (Nat.mul_le_mul_right _ (of_decide_eq_true (by first | (with_reducible assumption) | assumption) : (l0.length : Int).toNat ≤ 35184372088832)) (by omega)) (Below.refl _ _) (Nat.le_refl _) ?_; intro v102 w4 ho5 hb hg_ hnew_; clear hg_ hnew_; (first | rw [← Ny101.out] at ho5 | (simp only [Int.reduceToNat] at ho5; rw [← Ny101.out] at ho5)); have n0_ := sA (Kd.R_lower ho5 (below_size (by repeat (first | (with_reducible first | exact HB.out | apply sLA | apply sLN | apply sLD) | exact HB.out)))); have n1_ := sA (below_step (by repeat (first | (with_reducible first | exact HB.out | apply sLA | apply sLN | apply sLD) | exact HB.out)) hb); clear HB; have HO103 := n0_; have HB := n1_; clear n0_ n1_; clear hb ho5))
   go_loopg [4] k (fun kq v4 w' => ∃ (x3_1 : List Int) (x4_1 : Int), v4 = .int .i64 x4_1 ∧ Aside0 (laws_toIntS.l0 kq l0 x3_1 x4_1 = some r) ∧ Aside0 (kq ≤ k) ∧ Aside0 (Kd.R (Kd.int .i64) 3 w' w.heap.size (fun _ => True) v102 x3_1) ∧ Aside0 (Below w.heap.size w w'))
   case atStart => exact ⟨(y101), (0), (by first | rfl | (simp; done) | (simp [*]; done)), H', ⟨Nat.le_refl _⟩, ⟨sR HO103.out⟩, ⟨by repeat (first | (with_reducible first | exact HB.out | apply sLA | apply sLN | apply sLD) | exact HB.out)⟩⟩
   case round =>
    clear H'
    try clear c2
    try clear c2b0
    try clear c2b1
    try clear p2
    try clear c3
    try clear c3b0
    try clear c3b1
    obtain ⟨x3_1, x4_1, rfl, HA, HK1, HO_3, HB⟩ := hrel
    cases gk with
    | zero => exact absurd HA.out (by simp [laws_toIntS.l0])
    | succ k1 =>
     have H := HA.out
     clear HA
     simp only [laws_toIntS.l0] at H
     by_cases c6 : x4_1 < (l0.length : Int)
     ·rw [if_pos c6] at H
      have c6b0 : decide (x4_1 < (l0.length : Int)) = true := decide_eq_true c6
      clear c6
      by_cases c7 : 0 ≤ x4_1
      ·rw [if_pos c7] at H
       have c7b0 : decide (0 ≤ x4_1) = true := decide_eq_true c7
       clear c7
       by_cases c8 : x4_1 < (x3_1.length : Int)
       ·rw [if_pos c8] at H
        have c8b0 : decide (x4_1 < (x3_1.length : Int)) = true := decide_eq_true c8
        clear c8
        obtain ⟨y105, hy105⟩ : ∃ y_ : List Int, y_ = (x3_1.set (x4_1 : Int).toNat (rd l0 x4_1)) := ⟨_, rfl⟩
        replace H : (laws_toIntS.l0 k1 l0 y105 (wrap64 (x4_1 + 1))) = some r := by first | (rw [hy105]; with_reducible exact H) | (have H2_ := (Option.bind_some _ _).symm.trans H; rw [hy105]; with_reducible exact H2_) | (have H2_ := (Option.bind_some _ _).symm.trans H; with_reducible exact H2_) | with_reducible exact H | (rw [hy105]; exact H) | exact H
        have Ny105 := sA hy105
        clear hy105
        have H' := sA H
        clear H
        have p104 : 0 ≤ (x4_1 : Int) := of_decide_eq_true (by first | (with_reducible assumption) | assumption)
        have q104 : x4_1 < (l0.length : Int) := of_decide_eq_true (by first | (with_reducible assumption) | assumption)
        obtain ⟨ad104, e104, hx104_0⟩ := Kd.at_int HR0.out x4_1 p104 q104
        cases e104
        replace hx104_0 := (HB.out.cell (World.block_lt_of_cell? w _ hx104_0)).trans hx104_0
        replace p104 := eq_true p104
        replace q104 := eq_true q104
        have p9 : 0 ≤ (x4_1 : Int) := of_decide_eq_true (by first | (with_reducible assumption) | assumption)
        have q9 : (x4_1 : Int) < ((x3_1.length : Int) : Int) := of_decide_eq_true (by first | (with_reducible assumption) | assumption)
        obtain ⟨go9, co9, eo9, gb9, gl9, cl9, HG9⟩ := Kd.R_form HO_3.out (by omega)
        (first | cases eo9 | (injection eo9 with ea_ en_ ec_; (first | subst ea_ | (injection ea_ with ea_; subst ea_)); subst ec_; clear en_))
        have GB9 := sA gb9
        have GG9 := sA HG9
        clear gb9 gl9 HG9
        obtain ⟨hx9_0, hf9_0⟩ := Kd.R_celln 0 HO_3.out (x4_1 : Int) p9 q9
        replace p9 := eq_true p9
        replace q9 := eq_true q9
        have HP10 := Kd.R_putg HO_3.out (x4_1 : Int) (rd l0 x4_1)
        go_wp2_with (first | ((with_reducible refine gate_store (t := 3) (p := 20) rfl ?_); refine store_event (t := 3) (p := 20) (v := ?vo_w11) (w1 := (wr.setCell ⟨go9, (x4_1 : Int).toNat, none⟩ (.int .i64 (rd l0 x4_1)))) ?hg ?ho ?hn ?hr ?_; (case ho => rfl); (case hg => rfl); (case hn => rfl); (case hr => first | (go_simp; done) | (go_simp; rfl)); intro w11 hw; have hg : wr.grownBy w11 (some go9) := (by rw [hw]; exact HP10.2); have hp_ : Kd.R (Kd.int .i64) 3 w11 w.heap.size (fun _ => True) (.slice (some ⟨go9, 0, none⟩) x3_1.length co9) y105 := (by rw [hw, Ny105.out]; exact HP10.1); clear HP10; have n0_ := sA (hp_); have n1_ := sA ((by rw [hw]; exact below_set (HB.out) GB9.out : Below w.heap.size w w11)); clear HO_3; clear HB; have HO_3 := n0_; have HB := n1_; clear n0_ n1_; clear hg hw hp_))
        go_roundg k1
        case measure => have := HK1.out; omega
        case rel => exact ⟨(y105), (wrap64 (x4_1 + 1)), (by first | rfl | (simp; done) | (simp [*]; done)), H', ⟨by have := HK1.out; omega⟩, ⟨sR HO_3.out⟩, ⟨by repeat (first | (with_reducible first | exact HB.out | apply sLA | apply sLN | apply sLD) | exact HB.out)⟩⟩
       ·rw [if_neg c8] at H
        exact absurd H (by simp)
      ·rw [if_neg c7] at H
       exact absurd H (by simp)
     ·rw [if_neg c6] at H
      have c6b0 : decide (x4_1 < (l0.length : Int)) = false := decide_eq_false c6
      clear c6
      obtain rfl := Option.some.inj H
      go_wp2
      go_ret
      exact ⟨_, by first | rfl | (simp [errW_none, errW_some] <;> rfl) | (simp [*, errW_none, errW_some] <;> rfl), by (with_reducible repeat (first | apply Kd.R_alloc | apply Kd.R_drewN | apply Kd.R_drew)); exact HO_3.out, by repeat (first | (with_reducible first | exact HB.out | apply sLA | apply sLN | apply sLD) | exact HB.out)⟩
  ·rw [if_neg c3] at H
   exact absurd H (by simp)
 ·rw [if_neg c2] at H
  exact absurd H (by simp)

end Go.Proofs.Ytpdpdfccgeegaaa.P

namespace Go.Proofs.Ytpdpdfccgeegaaa.P
open Go.RowKit Go.Proofs.YtpdpdfccgeegaaaW.PrintWords Go.Proofs.YtpdpdfccgeegaaaW.PrintLast Go.Proofs.YtpdpdfccgeegaaaW.PrintMore
attribute [local go_sem] max2_int min2_int max_two min_two max_three min_three max_four min_four
set_option linter.unusedVariables false
set_option linter.unusedSimpArgs false

/-! ### impl_in: function 33 -/
def impl_in.f (a0 : Int) (a1 : Int) (a2 : Int) : Option (Bool) := if a0 ≥ a1 then (some (decide (a0 ≤ a2))) else (some false)
set_option maxHeartbeats 8000000 in
set_option maxRecDepth 100000 in
theorem impl_in.calls (a0 : Int) (a1 : Int) (a2 : Int) (r : Bool) (w : World) (h : impl_in.f a0 a1 a2 = some r) :
  Calls Try.prog 33 #[.int .i64 a0, .int .i64 a1, .int .i64 a2] w fun e w' => e = .returned (.bool r) ∧ Drawn0 w w' := by
 have H : (if a0 ≥ a1 then (some (decide (a0 ≤ a2))) else (some false)) = some r := h
 clear h
 by_cases c4 : a0 ≥ a1
 ·rw [if_pos c4] at H
  have c4b0 : decide (a1 ≤ a0) = true := decide_eq_true c4
  clear c4
  obtain rfl := Option.some.inj H
  go_enter Try.func33, Try.ntmps33
  go_wp2
  go_ret
  exact ⟨by first | rfl | (simp; done) | (simp [*]; done), by repeat (first | exact Drawn0.refl _ | apply Drawn0.step)⟩
 ·rw [if_neg c4] at H
  have c4b0 : decide (a1 ≤ a0) = false := decide_eq_false c4
  clear c4
  obtain rfl := Option.some.inj H
  go_enter Try.func33, Try.ntmps33
  go_wp2
  go_ret
  exact ⟨by first | rfl | (simp; done) | (simp [*]; done), by repeat (first | exact Drawn0.refl _ | apply Drawn0.step)⟩

end Go.Proofs.Ytpdpdfccgeegaaa.P

namespace Go.Proofs.Ytpdpdfccgeegaaa.P
open Go.RowKit Go.Proofs.YtpdpdfccgeegaaaW.PrintWords Go.Proofs.YtpdpdfccgeegaaaW.PrintLast Go.Proofs.YtpdpdfccgeegaaaW.PrintMore
attribute [local go_sem] max2_int min2_int max_two min_two max_three min_three max_four min_four
set_option linter.unusedVariables false
set_option linter.unusedSimpArgs false

theorem in_val (a b c : Int) : impl_in.f a b c = some (decide (b ≤ a ∧ a ≤ c)) := by
 unfold impl_in.f
 by_cases h : a ≥ b
 ·rw [if_pos h]
  by_cases h2 : a ≤ c
  ·simp [h, h2]
  ·simp [h2]
 ·rw [if_neg h]
  have : ¬ b ≤ a := by omega
  simp [this]
theorem in_as {a b c : Int} {r : Bool} (h : decide (b ≤ a ∧ a ≤ c) = r) : impl_in.f a b c = some r := by rw [in_val, h]

end Go.Proofs.Ytpdpdfccgeegaaa.P

namespace Go.Proofs.Ytpdpdfccgeegaaa.P
open Go.RowKit Go.Proofs.YtpdpdfccgeegaaaW.PrintWords Go.Proofs.YtpdpdfccgeegaaaW.PrintLast Go.Proofs.YtpdpdfccgeegaaaW.PrintMore
attribute [local go_sem] max2_int min2_int max_two min_two max_three min_three max_four min_four
set_option linter.unusedVariables false
set_option linter.unusedSimpArgs false

/-- Is x from lo to hi. -/
def inR (lo hi x : Int) : Bool := decide (lo ≤ x ∧ x ≤ hi)
theorem in_inR (lo hi x : Int) : impl_in.f x lo hi = some (inR lo hi x) := in_val x lo hi
theorem below_alloc_of {B : Nat} {w W : World} {n : Nat} {o : Obj} (hs : B ≤ n) (h : Below B w W) (hn : n ≤ W.heap.size := by simp) : Below B w (W.alloc o) := h.alloc (Nat.le_trans hs hn) o
/-- A call by a contract that ends in Below of its own world, seen from an elder world. -/
theorem below_calls {P : Program} {f : FuncId} {args : Array Value} (w : World) {W : World} {R : Ending → World → Prop} {Q : Ending → World → Prop} (hc : Calls P f args W fun e w' => R e w') (hb : Below w.heap.size w W)
  (h : ∀ e w', (R e w' ∧ (Below W.heap.size W w' → Below w.heap.size w w')) → Q e w') : Calls P f args W Q :=
 hc.mono fun e w' hr => h e w' ⟨hr, fun hd => below_then hb hb.size hd⟩

end Go.Proofs.Ytpdpdfccgeegaaa.P

namespace Go.Proofs.Ytpdpdfccgeegaaa.P
open Go.RowKit Go.Proofs.YtpdpdfccgeegaaaW.PrintWords Go.Proofs.YtpdpdfccgeegaaaW.PrintLast Go.Proofs.YtpdpdfccgeegaaaW.PrintMore
attribute [local go_sem] max2_int min2_int max_two min_two max_three min_three max_four min_four
set_option linter.unusedVariables false
set_option linter.unusedSimpArgs false

open Go.Shelf

/-- A closure that tells a plain predicate of whole numbers, in every world in which all that lay in w lies unturned. -/
def PredI (g : Nat) (lb : Array Value) (p : Int → Bool) (w : World) : Prop :=
 ∀ (W : World) (x : Int), Below w.heap.size w W → Calls Try.prog g (#[.int .i64 x] ++ lb) W fun e w' => e = .returned (.bool (p x)) ∧ Drawn0 W w'
theorem below_of_drawn {w W W' : World} (h : Below w.heap.size w W) (hd : Drawn0 W W') : Below w.heap.size w W' := by
 obtain ⟨n, rfl⟩ := hd
 exact pw_below_drewN h n
def idxF {α : Type} (p : α → Bool) : List α → Int → Int
 | [], _ => -1
 | x :: l, i => if p x then i else idxF p l (i + 1)
theorem idxF_any {α : Type} (p : α → Bool) (l : List α) : ∀ i : Int, 0 ≤ i → (decide (idxF p l i ≥ 0) = l.any p) := by
 induction l with
 | nil => intro i _; rfl
 | cons x l ih =>
  intro i hi
  unfold idxF
  cases hp : p x with
  | true => simp [hp, hi]
  | false => simp only [Bool.false_eq_true, if_false, List.any_cons, hp, Bool.false_or]; exact ih (i + 1) (by omega)
theorem idxF_bd {α : Type} (p : α → Bool) (l : List α) : ∀ i : Int, 0 ≤ i → -1 ≤ idxF p l i ∧ idxF p l i < i + l.length + 1 := by
 induction l with
 | nil => intro i hi; simp [idxF]; omega
 | cons x l ih =>
  intro i hi
  unfold idxF
  have := ih (i + 1) (by omega)
  split
  ·simp; omega
  ·simp only [List.length_cons]; omega
set_option maxHeartbeats 2000000 in
theorem indexFuncI (g : Nat) (lb : Array Value) (p : Int → Bool) (eg : ∀ args w, (callFunc g args).run Try.prog w = .ok (.enter g args) w) (A0 : Option Addr) (c0 : Nat) (l0 : List Int) (w : World)
  (hp : PredI g lb p w) (hr0 : Kd.C (Kd.int .i64) w A0 l0.length l0) (hc0 : l0.length ≤ c0) :
  Calls Try.prog 40 #[.slice A0 l0.length c0, .func (.func g) #[] lb] w fun e w' => e = .returned (.int .i64 (idxF p l0 0)) ∧ Drawn0 w w' := by
 have HN := Aside0.mk hr0.2.1
 have HR := Aside0.mk hr0
 have HP := Aside0.mk hp
 clear hp hr0
 go_enter Try.func40, Try.ntmps40
 go_wp2
 go_loopg [5, 8] l0.length (fun gg _ s8 wr => ∃ kk : Nat, kk ≤ l0.length ∧ l0.length - kk ≤ gg ∧ s8 = .int .i64 kk ∧ Aside0 (Drawn0 w wr) ∧ Aside0 (idxF p l0 0 = idxF p (l0.drop kk) kk))
 case atStart => exact ⟨0, Nat.zero_le _, by omega, rfl, ⟨Drawn0.refl w⟩, ⟨by simp⟩⟩
 case round =>
  obtain ⟨kk, hkk, hg, rfl, HD, HE⟩ := hrel
  have hn := HN.out
  by_cases hlt : kk < l0.length
  ·have hltz : (kk : Int) < (l0.length : Int) := by omega
   obtain ⟨ad, e, hx⟩ := Kd.at_int HR.out (kk : Int) (by omega) hltz
   cases e
   rw [Int.toNat_natCast] at hx
   obtain ⟨m, rfl⟩ := HD.out
   have hcall : ∀ q, Calls Try.prog g (#[.int .i64 (rd l0 kk)] ++ lb) (w.drewN q) fun e w' => e = .returned (.bool (p (rd l0 kk))) ∧ Drawn0 (w.drewN q) w' := fun q => HP.out _ _ (pw_below_drewN (Below.refl _ w) q)
   have hd : l0.drop kk = rd l0 kk :: l0.drop (kk + 1) := by
    rw [List.drop_eq_getElem_cons hlt]
    simp [rd, List.getD_eq_getElem?_getD, List.getElem?_eq_getElem hlt]
   have HS := Aside0.mk (show idxF p l0 0 = if p (rd l0 kk) then (kk : Int) else idxF p (l0.drop (kk + 1)) ((kk : Int) + 1) by rw [HE.out, hd]; rfl)
   clear hd HE HD
   cases hq : p (rd l0 kk) with
   | true =>
    rw [hq] at hcall HS
    have HF := Aside0.mk hcall
    clear hcall hq
    go_wp2_with (go_at_fn g; refine (HF.out _).mono ?_; rintro e w' ⟨rfl, ⟨nd, rfl⟩⟩)
    go_ret
    refine ⟨?_, by repeat (first | exact Drawn0.refl _ | apply Drawn0.step)⟩
    rw [HS.out]
    rfl
   | false =>
    rw [hq] at hcall HS
    have HF := Aside0.mk hcall
    clear hcall hq
    go_wp2_with (go_at_fn g; refine (HF.out _).mono ?_; rintro e w' ⟨rfl, ⟨nd, rfl⟩⟩)
    go_roundg (l0.length - (kk + 1))
    case measure => omega
    case rel => exact ⟨kk + 1, by omega, by omega, by go_num, ⟨by repeat (first | exact Drawn0.refl _ | apply Drawn0.step)⟩, ⟨by rw [HS.out]; rfl⟩⟩
  ·have hltz : ¬ (kk : Int) < (l0.length : Int) := by omega
   have hk : kk = l0.length := by omega
   go_wp2
   go_ret
   refine ⟨?_, HD.out⟩
   rw [HE.out, hk]
   simp [idxF]

set_option maxHeartbeats 2000000 in
theorem containsFuncI (g : Nat) (lb : Array Value) (p : Int → Bool) (eg : ∀ args w, (callFunc g args).run Try.prog w = .ok (.enter g args) w) (A0 : Option Addr) (c0 : Nat) (l0 : List Int) (w : World)
  (hp : PredI g lb p w) (hr0 : Kd.C (Kd.int .i64) w A0 l0.length l0) (hc0 : l0.length ≤ c0) :
  Calls Try.prog 34 #[.slice A0 l0.length c0, .func (.func g) #[] lb] w fun e w' => e = .returned (.bool (l0.any p)) ∧ Drawn0 w w' := by
 have HI := Aside0.mk (indexFuncI g lb p eg A0 c0 l0 w hp hr0 hc0)
 have HA := Aside0.mk (idxF_any p l0 0 (Int.le_refl 0))
 clear hp hr0 hc0 eg
 go_enter Try.func34, Try.ntmps34
 go_wp2_with (go_at_call 40; refine HI.out.mono ?_; rintro e w' ⟨rfl, ⟨nd, rfl⟩⟩)
 go_ret
 exact ⟨by rw [← HA.out]; rfl, by repeat (first | exact Drawn0.refl _ | apply Drawn0.step)⟩

end Go.Proofs.Ytpdpdfccgeegaaa.P

namespace Go.Proofs.Ytpdpdfccgeegaaa.P
open Go.RowKit Go.Proofs.YtpdpdfccgeegaaaW.PrintWords Go.Proofs.YtpdpdfccgeegaaaW.PrintLast Go.Proofs.YtpdpdfccgeegaaaW.PrintMore
attribute [local go_sem] max2_int min2_int max_two min_two max_three min_three max_four min_four
set_option linter.unusedVariables false
set_option linter.unusedSimpArgs false

/-! ### impl_areQuanta: function 19 (by hand) -/
theorem quanta_pred (w : World) : PredI 35 #[] (fun x => !inR 20 100 x) w := by
  intro W x _
  have H := Aside0.mk (in_inR 20 100 x)
  show Calls Try.prog 35 #[.int .i64 x] W fun e w' => e = .returned (.bool (!inR 20 100 x)) ∧ Drawn0 W w'
  generalize inR 20 100 x = b at H ⊢
  go_enter Try.func35, Try.ntmps35
  go_wp2_with (go_at_call 33; (with_reducible refine (impl_in.calls x 20 100 b _ H.out).mono ?_); rintro e w' ⟨rfl, ⟨nd, rfl⟩⟩)
  go_ret
  exact ⟨rfl, by repeat (first | exact Drawn0.refl _ | apply Drawn0.step)⟩
def impl_areQuanta.f (l0 : List Int) : Option (Bool) := some (inR 1 4 (l0.length : Int) && !l0.any (fun x => !inR 20 100 x))
set_option maxHeartbeats 2000000 in
theorem impl_areQuanta.calls (A0 : Option Addr) (c0 : Nat) (l0 : List Int) (r : Bool) (w : World) (hr0 : Kd.C (Kd.int .i64) w A0 l0.length l0) (hc0 : l0.length ≤ c0) (h : impl_areQuanta.f l0 = some r) :
  Calls Try.prog 19 #[.slice A0 l0.length c0] w fun e w' => e = .returned (.bool r) ∧ Drawn0 w w' := by
 have HR := sA hr0
 have HC := sA hc0
 clear hr0 hc0
 obtain rfl := Option.some.inj h
 clear h
 have H1 := sA (in_inR 1 4 (l0.length : Int))
 have H2 : ∀ q, _ := fun q => containsFuncI 35 #[] (fun x => !inR 20 100 x) (Go.Proofs.enters_of Try.func35 (by kernel_rfl) rfl) A0 c0 l0 (w.drewN q) (quanta_pred _) (Kd.C_below HR.out (pw_below_drewN (Below.refl _ w) q)) HC.out
 generalize inR 1 4 (l0.length : Int) = b1 at H1 ⊢
 generalize l0.any (fun x => !inR 20 100 x) = b2 at H2 ⊢
 have H2' := sA H2
 clear H2
 cases b1 with
 | true =>
  go_enter Try.func19, Try.ntmps19
  go_wp2_with (first | (go_at_call 33; (with_reducible refine (impl_in.calls _ 1 4 _ _ H1.out).mono ?_); rintro e w' ⟨rfl, ⟨nd, rfl⟩⟩) | (go_at_call 34; refine (H2'.out _).mono ?_; rintro e w' ⟨rfl, ⟨nd2, rfl⟩⟩))
  go_ret
  exact ⟨by simp, by repeat (first | exact Drawn0.refl _ | exact ⟨_, rfl⟩ | apply Drawn0.step)⟩
 | false =>
  go_enter Try.func19, Try.ntmps19
  go_wp2_with (go_at_call 33; (with_reducible refine (impl_in.calls _ 1 4 _ _ H1.out).mono ?_); rintro e w' ⟨rfl, ⟨nd, rfl⟩⟩)
  go_ret
  exact ⟨by simp, by repeat (first | exact Drawn0.refl _ | exact ⟨_, rfl⟩ | apply Drawn0.step)⟩


end Go.Proofs.Ytpdpdfccgeegaaa.P

namespace Go.Proofs.Ytpdpdfccgeegaaa.P
open Go.RowKit Go.Proofs.YtpdpdfccgeegaaaW.PrintWords Go.Proofs.YtpdpdfccgeegaaaW.PrintLast Go.Proofs.YtpdpdfccgeegaaaW.PrintMore
attribute [local go_sem] max2_int min2_int max_two min_two max_three min_three max_four min_four
set_option linter.unusedVariables false
set_option linter.unusedSimpArgs false

/-! ### slices_Clone_int_int: function 20 (by hand) -/
def slices_Clone_int_int.f (l0 : List Int) : Option (List Int) := if l0.length ≤ 17592186044416 then some l0 else none
theorem slices_Clone_int_int.infoE : (Try.prog.info? 3).map (fun i => (i.zero, i.size, i.bytes)) = some (some (.int .i64 0), 1, 8) := by kernel_rfl
set_option maxHeartbeats 2000000 in
theorem slices_Clone_int_int.calls (A0 : Option Addr) (c0 : Nat) (l0 : List Int) (r : List Int) (w : World) (hr0 : Kd.C (Kd.int .i64) w A0 l0.length l0) (hc0 : l0.length ≤ c0) (h : slices_Clone_int_int.f l0 = some r) :
  Calls Try.prog 20 #[.slice A0 l0.length c0] w fun e w' => ∃ v0_ : Value, e = .returned (v0_) ∧ Kd.R (Kd.int .i64) 3 w' w.heap.size (fun _ => True) v0_ r ∧ Below w.heap.size w w' := by
 unfold slices_Clone_int_int.f at h
 by_cases hl : l0.length ≤ 17592186044416
 ·rw [if_pos hl] at h
  obtain rfl := Option.some.inj h
  clear h
  have HR := sA hr0
  have HL := sA hl
  clear hr0 hc0 hl
  cases A0 with
  | none =>
   have h0 : l0 = [] := by
    by_cases hp : 0 < l0.length
    ·obtain ⟨ad, e, _⟩ := HR.out.2.2 hp
     cases e
    ·exact List.length_eq_zero_iff.1 (by omega)
   subst h0
   have HE := sA (Kd.R_nil (Kd.int .i64) 3 w w.heap.size (fun _ => True))
   have hq : ∀ W, Sem.run Try.prog (binOp .eql 22 (.slice none 0 c0) (.slice none 0 0)) W = .ok (.bool true) W := fun W => by
    simpa using Lib.run_eql_slice_nil W 22 3 none 0 c0 0 0 Try.underlying22
   go_enter Try.func20, Try.ntmps20
   go_wp2
   go_ret
   exact ⟨_, rfl, HE.out, Below.refl _ _⟩
  | some ad =>
   have hq : ∀ W, Sem.run Try.prog (binOp .eql 22 (.slice (some ad) l0.length c0) (.slice none 0 0)) W = .ok (.bool false) W := fun W => by
    simpa using Lib.run_eql_slice_nil W 22 3 (some ad) l0.length c0 0 0 Try.underlying22
   have HB := sA (Below.refl w.heap.size w)
   go_enter Try.func20, Try.ntmps20
   go_wp2_with (first | ((with_reducible refine gate_dst (N := 5) rfl ?_); refine Kd.R_lit (Kd.int .i64) _ 3 ?hg (N := 5) ?hd (xs := ([] : List Int)) (inner := []) (ok := fun _ => True) (okp := fun _ => True) ?hr ?hp (fun _ hk => hk) trivial (Below.refl _ _) (Nat.le_refl _) (by simp) ?_; (case hd => rfl); (case hg => rfl); (case hr => first | (go_simp; done) | (go_simp; rfl)); (case hp => exact (Reps.none _ _)); intro v1 w1 ho1 hb1 hg1_ hnew_; have HO1 := sA ho1; have HB1 := sA hb1; clear ho1 hb1 hg1_ hnew_) | ((with_reducible refine gate_dst (N := 7) rfl ?_); refine Kd.R_append_row (Value.int .i64) (0 : Int) (h1 := fun _ => rfl) (w0 := w) w.heap.size (by rfl) (.tmp 5) (.tmp 6) 22 3 (.int .i64 0) 8 rfl Try.underlying22 slices_Clone_int_int.infoE rfl (by decide) v1 [] l0 (some ad) l0.length c0 (fun _ => True) rfl rfl (fun _ _ => trivial) HO1.out (Kd.C_below HR.out HB1.out) HB1.out HB1.out.size (by have := HL.out; simp only [List.length_nil]; omega) ?_; intro v2 w2 ho2 hb2 hg2_ hat_; have HO2 := sA ho2; have HB2 := sA hb2; clear ho2 hb2 hg2_ hat_))
   go_ret
   exact ⟨_, rfl, HO2.out, HB2.out⟩
 ·rw [if_neg hl] at h
  cases h


end Go.Proofs.Ytpdpdfccgeegaaa.P
