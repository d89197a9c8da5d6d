/- FnExactPlayHeard: for every input that can be read, the law returns true and its arguments read as before. Conditions: none beyond the row's own. (Part 6 of 6: contracts made by pw.py with the kit's print, contracts by hand, plain laws, the row.) -/
import Derived.Test.YtligcknlmbgbiaaMFnExactPlayHeard4
import Derived.ChangeArms
import Derived.ChangeSame
import Derived.ChangeSlices
import Derived.WideShapes
import Derived.ProofKit
import Derived.KernelRfl
import Derived.Lib.SlicesCompact
import Derived.Test.YtligcknlmbgbiaaRows
import Derived.WalkKit
import Derived.OpenShut
import Derived.ShutString
import Derived.ChangeOld
import Derived.Below
import Derived.SizedLaws
import Derived.Carry

namespace Go.Proofs.Ytligcknlmbgbiaa.P
open Go.RowKit Go.Proofs.YtligcknlmbgbiaaW.PrintWords Go.Proofs.YtligcknlmbgbiaaW.PrintLast Go.Proofs.YtligcknlmbgbiaaW.PrintMore
attribute [local go_sem] max2_int min2_int max_two min_two max_three min_three max_four min_four
set_option linter.unusedVariables false
set_option linter.unusedSimpArgs false

/-! ### impl_PlayHeard: function 28 -/
mutual
def impl_PlayHeard.j0 : Nat → List Int → Bool → Int → List (S59) → List Int → Option (List Int × Bool)
  | 0, _, _, _, _, _ => none
  | k + 1, x1, x27, x110000, x110001, x110002 => if x27 = true then (some (([] : List Int), false)) else (impl_PlayHeard.l0 k (([] : List Int)) x1 (x1.length : Int) 0 x110000 x110001 x110002)
def impl_PlayHeard.l0 : Nat → List Int → List Int → Int → Int → Int → List (S59) → List Int → Option (List Int × Bool)
  | 0, _, _, _, _, _, _, _ => none
  | k + 1, x8, x29, x30, x31, x110000, x110001, x110002 => if x31 < x30 then (if 0 ≤ x31 then (if x31 < (x29.length : Int) then ((impl_HearSpans.f k x110000 x110001 x110002 (([(⟨rd x29 x31, wrap64 ((rd x29 x31) + 1)⟩ : S59)] : List (S59)))).bind fun bt118 => (if bt118.2.2.2.2.2 = true then (if x8.length + bt118.2.2.2.2.1.length < 17592186044416 then (impl_PlayHeard.l0 k (x8 ++ bt118.2.2.2.2.1) x29 x30 (wrap64 (x31 + 1)) bt118.1 bt118.2.1 bt118.2.2.1) else (none)) else (some (([] : List Int), false)))) else (none)) else (none)) else ((slices_Sort_int_int.f x8).bind fun t136 => ((slices_Compact_int_int.f t136).bind fun t137 => (some (t137, true))))
end
def impl_PlayHeard.f (k : Nat) (a0 : Int) (l1 : List Int) : Option (List Int × Bool) := (impl_NewSender.f a0).bind fun bt101 => (if bt101.2.2.2 = true then ((impl_isComing.f k l1 a0).bind fun t110 => (impl_PlayHeard.j0 k l1 (!t110) bt101.1 bt101.2.1 bt101.2.2.1)) else (impl_PlayHeard.j0 k l1 true bt101.1 bt101.2.1 bt101.2.2.1))
set_option maxHeartbeats 8000000 in
set_option maxRecDepth 100000 in
theorem impl_PlayHeard.calls (k : Nat) (a0 : Int) (A1 : Option Addr) (c1 : Nat) (l1 : List Int) (r1 : List Int) (r2 : Bool) (w : World) (hr1 : Kd.C (Kd.int .i64) w A1 l1.length l1) (hc1 : l1.length ≤ c1) (h : impl_PlayHeard.f k a0 l1 = some (r1, r2)) :
  Calls Try.prog 28 #[.int .i64 a0, .slice A1 l1.length c1] w fun e w' => ∃ v0_ : Value, e = .returned (.tuple #[v0_, .bool r2]) ∧ Kd.R (Kd.int .i64) 3 w' w.heap.size (fun _ => True) v0_ r1 ∧ Below w.heap.size w w' := by
 have hu31 := Try.underlying31
 have hu59 := Try.underlying59
 have HR1 := sA hr1
 have HC1 := sA hc1
 clear hr1 hc1
 have HB := sA (Below.refl w.heap.size w)
 have H : ((impl_NewSender.f a0).bind fun bt101 => (if bt101.2.2.2 = true then ((impl_isComing.f k l1 a0).bind fun t110 => (impl_PlayHeard.j0 k l1 (!t110) bt101.1 bt101.2.1 bt101.2.2.1)) else (impl_PlayHeard.j0 k l1 true bt101.1 bt101.2.1 bt101.2.2.1))) = some (r1, r2) := h
 clear h
 replace H := Option.bind_eq_some_iff.mp H
 obtain ⟨⟨t101, t102, t105, t108⟩, A30, H⟩ := H
 replace H : (if t108 = true then ((impl_isComing.f k l1 a0).bind fun t110 => (impl_PlayHeard.j0 k l1 (!t110) t101 t102 t105)) else (impl_PlayHeard.j0 k l1 true t101 t102 t105)) = some (r1, r2) := H
 have A3 := sA A30
 clear A30
 have HC4 := sA H
 clear H
 go_enter Try.func28, Try.ntmps28
 go_upto_region 2 with (first | ((with_reducible refine gate_callee (f := 52) rfl ?_); refine goesL_ (some 17) rfl rfl Try.func52 (by kernel_rfl) rfl #[.int .i64 a0] rfl (by (try simp only [List.map_toArray, List.map_cons, List.map_nil]); first | done | rfl | (simp only [List.length_drop, List.length_take]; rfl)) ?_; (with_reducible refine (impl_NewSender.calls a0 t101 t102 t105 t108 _ A3.out).mono ?_); rintro e w5 ⟨v103, v106, rfl, ho0, ho1, hb⟩; refine ⟨_, rfl, ?_⟩; have n0_ := sA (Kd.R_lower ho0 (below_size (by repeat (first | (with_reducible first | exact HB.out | apply sLA | apply sLN | apply sLD) | exact HB.out)))); have n1_ := sA (Kd.R_lower ho1 (below_size (by repeat (first | (with_reducible first | exact HB.out | apply sLA | apply sLN | apply sLD) | exact HB.out)))); have n2_ := sA (below_step (by repeat (first | (with_reducible first | exact HB.out | apply sLA | apply sLN | apply sLD) | exact HB.out)) hb); clear HB; have HO104 := n0_; have HO107 := n1_; have HB := n2_; clear n0_ n1_ n2_; (try clear hb); (try clear hb2); (try clear hk); (try clear hi); (try clear ho0); (try clear ho1)) | ((with_reducible refine gate_dst (N := 6) rfl ?_); refine box_event ?hg (N := 6) ?hd (cs := #[.int .i64 0, .slice none 0 0, .slice none 0 0]) (t := 31) ?hr ?_; (case hd => rfl); (case hg => rfl); (case hr => first | (go_simp; done) | (go_simp; rfl)); intro gb109 hg w6 hbox hb; have n0_ := sA (Kd.R_below (sR HO104.out) hb); have n1_ := sA (Kd.R_below (sR HO107.out) hb); have n2_ := sA (below_step (by repeat (first | (with_reducible first | exact HB.out | apply sLA | apply sLN | apply sLD) | exact HB.out)) hb); have n3_ := sA (hbox); have n4_ := sA ((by rw [hg]; exact (below_size (by repeat (first | (with_reducible first | exact HB.out | apply sLA | apply sLN | apply sLD) | exact HB.out))) : w.heap.size ≤ gb109)); have n5_ := sA ((by rw [hg]; exact (below_size (by repeat (first | (with_reducible first | exact HB.out | apply sLA | apply sLN | apply sLD) | exact HB.out))) : w.heap.size ≤ gb109)); clear HO104; clear HO107; clear HB; have HO104 := n0_; have HO107 := n1_; have HB := n2_; have BK109 := n3_; have GW109 := n4_; have GE109 := n5_; clear n0_ n1_ n2_ n3_ n4_ n5_; clear hb hbox hg; have hcz7_0 : w6.cell? ⟨gb109, 0, none⟩ = some (.int .i64 0) := sC BK109 0 rfl; have hcz7_1 : w6.cell? ⟨gb109, 1, none⟩ = some (.slice none 0 0) := sC BK109 1 rfl; have hcz7_2 : w6.cell? ⟨gb109, 2, none⟩ = some (.slice none 0 0) := sC BK109 2 rfl; have hfz7_0 := blk_frozen BK109.out 0; have hfz7_1 := blk_frozen BK109.out 1; have hfz7_2 := blk_frozen BK109.out 2; obtain ⟨Ao8, co8, eo8⟩ := Kd.R_slice HO104.out; subst eo8; obtain ⟨Ao9, co9, eo9⟩ := Kd.R_slice HO107.out; subst eo9))
 (try simp only [Act.put, sI, sZ, sV])
 go_cut [27] (fun v27 wc => ∃ (kq : Nat) (x27_3 : Bool), v27 = .bool x27_3 ∧ Aside0 (impl_PlayHeard.j0 kq l1 x27_3 t101 t102 t105 = some (r1, r2)) ∧ Aside0 (kq ≤ k) ∧ Aside0 (Kd.R k59 59 wc w.heap.size (fun _ => True) (.slice Ao8 t102.length co8) t102) ∧ Aside0 (Kd.R (Kd.int .i64) 3 wc w.heap.size (fun _ => True) (.slice Ao9 t105.length co9) t105) ∧ Aside0 (wc.heap[gb109]? = some (.cells #[.int .i64 t101, (.slice Ao8 t102.length co8), (.slice Ao9 t105.length co9)] 31 (0, 0))) ∧ Aside0 (Below w.heap.size w wc))
 case first =>
  have H := HC4.out
  clear HC4
  by_cases c10 : t108 = true
  ·subst c10
   have H1 : ((impl_isComing.f k l1 a0).bind fun t110 => (impl_PlayHeard.j0 k l1 (!t110) t101 t102 t105)) = some (r1, r2) := by rw [if_pos rfl] at H; exact H
   clear H
   have H := H1
   clear H1
   replace H := Option.bind_eq_some_iff.mp H
   obtain ⟨t110, A110, H⟩ := H
   replace H : (impl_PlayHeard.j0 k l1 (!t110) t101 t102 t105) = some (r1, r2) := H
   have A11 := sA A110
   clear A110
   have H' := sA H
   clear H
   go_wp2_with (first | (go_at_call 53; (with_reducible refine (impl_isComing.calls k _ _ l1 a0 t110 _ ?side1 ?side2 A11.out).mono ?_); (case side1 => exact Kd.C_below HR1.out (by repeat (first | (with_reducible first | exact HB.out | apply sLA | apply sLN | apply sLD | refine sLS ?_ GE109.out) | exact HB.out))); (case side2 => exact HC1.out); rintro e w' ⟨rfl, ⟨nd, rfl⟩⟩))
   go_meet
   case rel => exact ⟨_, (!t110), (by first | rfl | (simp; done) | (simp [*]; done)), H', ⟨by first | omega | exact Nat.le_refl _⟩, ⟨sR (Kd.R_mono (Kd.R_far (p := ⟨gb109, 2, none⟩) (Kd.R_far (p := ⟨gb109, 1, none⟩) (Kd.R_far (p := ⟨gb109, 0, none⟩) (Kd.R_types HO104.out BK109.out (by decide)) (fun _ hk => hk.2) (.int .i64 t101)) (fun _ hk => hk.2) (.slice Ao8 t102.length co8)) (fun _ hk => hk.2) (.slice Ao9 t105.length co9)) (fun _ hk => trivial))⟩, ⟨sR (Kd.R_mono (Kd.R_far (p := ⟨gb109, 2, none⟩) (Kd.R_far (p := ⟨gb109, 1, none⟩) (Kd.R_far (p := ⟨gb109, 0, none⟩) (Kd.R_types HO107.out BK109.out (by decide)) (fun _ hk => hk.2) (.int .i64 t101)) (fun _ hk => hk.2) (.slice Ao8 t102.length co8)) (fun _ hk => hk.2) (.slice Ao9 t105.length co9)) (fun _ hk => trivial))⟩, ⟨by (with_reducible repeat first | apply blk_drewN | apply blk_drew | apply blk_alloc); refine blk_put (cs := #[.int .i64 t101, .slice Ao8 t102.length co8, .slice none 0 0]) ?_ 2 _ rfl; (with_reducible repeat first | apply blk_drewN | apply blk_drew | apply blk_alloc); refine blk_put (cs := #[.int .i64 t101, .slice none 0 0, .slice none 0 0]) ?_ 1 _ rfl; (with_reducible repeat first | apply blk_drewN | apply blk_drew | apply blk_alloc); refine blk_put (cs := #[.int .i64 0, .slice none 0 0, .slice none 0 0]) ?_ 0 _ rfl; (with_reducible repeat first | apply blk_drewN | apply blk_drew | apply blk_alloc); exact BK109.out⟩, ⟨by repeat (first | (with_reducible first | exact HB.out | apply sLA | apply sLN | apply sLD | refine sLS ?_ GE109.out) | exact HB.out)⟩⟩
  ·replace c10 := Bool.eq_false_iff.mpr c10
   subst c10
   have H1 : (impl_PlayHeard.j0 k l1 true t101 t102 t105) = some (r1, r2) := by rw [if_neg (show ¬ (false = true) by decide)] at H; exact H
   clear H
   have H := H1
   clear H1
   have H' := sA H
   clear H
   go_wp2
   go_meet
   case rel => exact ⟨_, (true), (by first | rfl | (simp; done) | (simp [*]; done)), H', ⟨by first | omega | exact Nat.le_refl _⟩, ⟨sR (Kd.R_mono (Kd.R_far (p := ⟨gb109, 2, none⟩) (Kd.R_far (p := ⟨gb109, 1, none⟩) (Kd.R_far (p := ⟨gb109, 0, none⟩) (Kd.R_types HO104.out BK109.out (by decide)) (fun _ hk => hk.2) (.int .i64 t101)) (fun _ hk => hk.2) (.slice Ao8 t102.length co8)) (fun _ hk => hk.2) (.slice Ao9 t105.length co9)) (fun _ hk => trivial))⟩, ⟨sR (Kd.R_mono (Kd.R_far (p := ⟨gb109, 2, none⟩) (Kd.R_far (p := ⟨gb109, 1, none⟩) (Kd.R_far (p := ⟨gb109, 0, none⟩) (Kd.R_types HO107.out BK109.out (by decide)) (fun _ hk => hk.2) (.int .i64 t101)) (fun _ hk => hk.2) (.slice Ao8 t102.length co8)) (fun _ hk => hk.2) (.slice Ao9 t105.length co9)) (fun _ hk => trivial))⟩, ⟨by (with_reducible repeat first | apply blk_drewN | apply blk_drew | apply blk_alloc); refine blk_put (cs := #[.int .i64 t101, .slice Ao8 t102.length co8, .slice none 0 0]) ?_ 2 _ rfl; (with_reducible repeat first | apply blk_drewN | apply blk_drew | apply blk_alloc); refine blk_put (cs := #[.int .i64 t101, .slice none 0 0, .slice none 0 0]) ?_ 1 _ rfl; (with_reducible repeat first | apply blk_drewN | apply blk_drew | apply blk_alloc); refine blk_put (cs := #[.int .i64 0, .slice none 0 0, .slice none 0 0]) ?_ 0 _ rfl; (with_reducible repeat first | apply blk_drewN | apply blk_drew | apply blk_alloc); exact BK109.out⟩, ⟨by repeat (first | (with_reducible first | exact HB.out | apply sLA | apply sLN | apply sLD | refine sLS ?_ GE109.out) | exact HB.out)⟩⟩
 case rest =>
  clear HC4
  try clear c1
  try clear c2
  try clear p2
  try clear c5
  try clear c10
  try clear hcz7_0
  try clear hcz7_1
  try clear hcz7_2
  try clear hfz7_0
  try clear hfz7_1
  try clear hfz7_2
  obtain ⟨kq, x27_3, rfl, HA, HJ3, HO_110001, HO_110002, BK109, HB⟩ := hcut
  cases kq with
  | zero => exact absurd HA.out (by simp [impl_PlayHeard.j0])
  | succ kj3 =>
   have H := HA.out
   clear HA
   simp only [impl_PlayHeard.j0] at H
   by_cases c12 : x27_3 = true
   ·subst c12
    have H1 : (some (([] : List Int), false)) = some (r1, r2) := by rw [if_pos rfl] at H; exact H
    clear H
    have H := H1
    clear H1
    simp only [Option.some.injEq, Prod.mk.injEq] at H
    obtain ⟨rfl, rfl⟩ := H
    go_wp2
    go_ret2
    exact ⟨_, by first | rfl | (simp [errW_none, errW_some] <;> rfl) | (simp [*, errW_none, errW_some] <;> rfl), by first | exact Kd.R_nil _ _ _ _ _ | exact Kd.N_nil _ _ _ _ _ | exact Kd.V_nil _ _ _ _ _ | exact Kd.Q_nil _ _ _ _ _ | exact Kd.S_nil _ _ _ _ _, by repeat (first | (with_reducible first | exact HB.out | apply sLA | apply sLN | apply sLD | refine sLS ?_ GE109.out) | exact HB.out)⟩
   ·replace c12 := Bool.eq_false_iff.mpr c12
    subst c12
    have H1 : (impl_PlayHeard.l0 kj3 (([] : List Int)) l1 (l1.length : Int) 0 t101 t102 t105) = some (r1, r2) := by rw [if_neg (show ¬ (false = true) by decide)] at H; exact H
    clear H
    have H := H1
    clear H1
    obtain ⟨y111, hy111⟩ : ∃ y_ : List Int, y_ = (([] : List Int)) := ⟨_, rfl⟩
    replace H : (impl_PlayHeard.l0 kj3 y111 l1 (l1.length : Int) 0 t101 t102 t105) = some (r1, r2) := by first | (rw [hy111]; with_reducible exact H) | (have H2_ := (Option.bind_some _ _).symm.trans H; rw [hy111]; with_reducible exact H2_) | (have H2_ := (Option.bind_some _ _).symm.trans H; with_reducible exact H2_) | with_reducible exact H | (rw [hy111]; exact H) | exact H
    have Ny111 := sA hy111
    clear hy111
    have H' := sA H
    clear H
    go_wp2_with (first | ((with_reducible refine gate_dst (N := 28) rfl ?_); refine Kd.R_lit (Kd.int .i64) _ 3 ?hg (N := 28) ?hd (xs := ([] : List Int)) (inner := []) (ok := fun _ => True) (okp := fun _ => True) ?hr ?hp (fun _ hk => hk) trivial (Below.refl _ _) (Nat.le_refl _) (by simp) ?_; (case hd => rfl); (case hg => rfl); (case hr => first | (go_simp; done) | (go_simp; rfl)); (case hp => exact (Reps.none _ _)); intro v112 w13 ho14 hb hg_ hnew_; clear hg_ hnew_; (first | rw [← Ny111.out] at ho14 | (simp only [Int.reduceToNat] at ho14; rw [← Ny111.out] at ho14)); have n0_ := sA (Kd.R_below (sR HO_110001.out) hb); have n1_ := sA (Kd.R_elder' (sR HO_110002.out) (Kd.R_base ho14) hb); have n2_ := sA (Kd.R_lower (Kd.R_new' ho14 (Kd.R_lt (sR HO_110002.out))) (below_size (by repeat (first | (with_reducible first | exact HB.out | apply sLA | apply sLN | apply sLD | refine sLS ?_ GE109.out) | exact HB.out)))); have n3_ := sA (blk_below (sB BK109.out) hb); have n4_ := sA (below_step (by repeat (first | (with_reducible first | exact HB.out | apply sLA | apply sLN | apply sLD | refine sLS ?_ GE109.out) | exact HB.out)) hb); clear HO_110001; clear HO_110002; clear BK109; clear HB; have HO_110001 := n0_; have HO_110002 := n1_; have HO113 := n2_; have BK109 := n3_; have HB := n4_; clear n0_ n1_ n2_ n3_ n4_; clear hb ho14))
    go_loopg [8, 31] kj3 (fun kq v8 v31 w' => ∃ (x8_2 : List Int) (x31_2 : Int) (x110000_2 : Int) (x110001_2 : List (S59)) (x110002_2 : List Int) (u110001 : Value) (u110002 : Value), v31 = .int .i64 x31_2 ∧ Aside0 (impl_PlayHeard.l0 kq x8_2 l1 (l1.length : Int) x31_2 x110000_2 x110001_2 x110002_2 = some (r1, r2)) ∧ Aside0 (kq ≤ kj3) ∧ Aside0 (Kd.R (Kd.int .i64) 3 w' w.heap.size (fun k_ => some k_ ≠ (u110002 : Value).ownBlock) v8 x8_2) ∧ Aside0 (Kd.R k59 59 w' w.heap.size (fun _ => True) u110001 x110001_2) ∧ Aside0 (Kd.R (Kd.int .i64) 3 w' w.heap.size (fun k_ => some k_ ≠ (v8 : Value).ownBlock) u110002 x110002_2) ∧ Aside0 (w'.heap[gb109]? = some (.cells #[.int .i64 x110000_2, u110001, u110002] 31 (0, 0))) ∧ Aside0 (Below w.heap.size w w'))
    case atStart => exact ⟨(y111), (0), (t101), (t102), (t105), (.slice Ao8 t102.length co8), (.slice Ao9 t105.length co9), (by first | rfl | (simp; done) | (simp [*]; done)), H', ⟨Nat.le_refl _⟩, ⟨sR (Kd.R_mono HO113.out (fun _ hk => hk.2))⟩, ⟨sR HO_110001.out⟩, ⟨sR (Kd.R_mono HO_110002.out (fun _ hk => hk.2))⟩, ⟨sB BK109.out⟩, ⟨by repeat (first | (with_reducible first | exact HB.out | apply sLA | apply sLN | apply sLD | refine sLS ?_ GE109.out) | exact HB.out)⟩⟩
    case round =>
     clear H'
     try clear c1
     try clear c2
     try clear p2
     try clear c5
     try clear c10
     try clear c12
     try clear hcz7_0
     try clear hcz7_1
     try clear hcz7_2
     try clear hfz7_0
     try clear hfz7_1
     try clear hfz7_2
     try clear p2
     obtain ⟨x8_2, x31_2, x110000_2, x110001_2, x110002_2, u110001, u110002, rfl, HA, HK2, HO_8, HO_110001, HO_110002, BK109, HB⟩ := hrel
     cases gk with
     | zero => exact absurd HA.out (by simp [impl_PlayHeard.l0])
     | succ k2 =>
      have H := HA.out
      clear HA
      simp only [impl_PlayHeard.l0] at H
      by_cases c15 : x31_2 < (l1.length : Int)
      ·rw [if_pos c15] at H
       have c15b0 : decide (x31_2 < (l1.length : Int)) = true := decide_eq_true c15
       clear c15
       by_cases c16 : 0 ≤ x31_2
       ·rw [if_pos c16] at H
        have c16b0 : decide (0 ≤ x31_2) = true := decide_eq_true c16
        clear c16
        by_cases c17 : x31_2 < (l1.length : Int)
        ·rw [if_pos c17] at H
         have c17b0 : decide (x31_2 < (l1.length : Int)) = true := decide_eq_true c17
         clear c17
         obtain ⟨y115, hy115⟩ : ∃ y_ : List (S59), y_ = (([(⟨rd l1 x31_2, wrap64 ((rd l1 x31_2) + 1)⟩ : S59)] : List (S59))) := ⟨_, rfl⟩
         replace H : ((impl_HearSpans.f k2 x110000_2 x110001_2 x110002_2 y115).bind fun bt118 => (if bt118.2.2.2.2.2 = true then (if x8_2.length + bt118.2.2.2.2.1.length < 17592186044416 then (impl_PlayHeard.l0 k2 (x8_2 ++ bt118.2.2.2.2.1) l1 (l1.length : Int) (wrap64 (x31_2 + 1)) bt118.1 bt118.2.1 bt118.2.2.1) else (none)) else (some (([] : List Int), false)))) = some (r1, r2) := by first | (rw [hy115]; with_reducible exact H) | (have H2_ := (Option.bind_some _ _).symm.trans H; rw [hy115]; with_reducible exact H2_) | (have H2_ := (Option.bind_some _ _).symm.trans H; with_reducible exact H2_) | with_reducible exact H | (rw [hy115]; exact H) | exact H
         have Ny115 := sA hy115
         clear hy115
         replace H := Option.bind_eq_some_iff.mp H
         obtain ⟨⟨t118, t119, t122, t125, t128, t131⟩, A180, H⟩ := H
         replace H : (if t131 = true then (if x8_2.length + t128.length < 17592186044416 then (impl_PlayHeard.l0 k2 (x8_2 ++ t128) l1 (l1.length : Int) (wrap64 (x31_2 + 1)) t118 t119 t122) else (none)) else (some (([] : List Int), false))) = some (r1, r2) := H
         have A18 := sA A180
         clear A180
         by_cases c19 : t131 = true
         ·subst c19
          have H1 : (if x8_2.length + t128.length < 17592186044416 then (impl_PlayHeard.l0 k2 (x8_2 ++ t128) l1 (l1.length : Int) (wrap64 (x31_2 + 1)) t118 t119 t122) else (none)) = some (r1, r2) := by rw [if_pos rfl] at H; exact H
          clear H
          have H := H1
          clear H1
          by_cases c20 : x8_2.length + t128.length < 17592186044416
          ·rw [if_pos c20] at H
           have LMc20 := sA c20
           clear c20
           obtain ⟨y133, hy133⟩ : ∃ y_ : List Int, y_ = (x8_2 ++ t128) := ⟨_, rfl⟩
           replace H : (impl_PlayHeard.l0 k2 y133 l1 (l1.length : Int) (wrap64 (x31_2 + 1)) t118 t119 t122) = some (r1, r2) := by first | (rw [hy133]; with_reducible exact H) | (have H2_ := (Option.bind_some _ _).symm.trans H; rw [hy133]; with_reducible exact H2_) | (have H2_ := (Option.bind_some _ _).symm.trans H; with_reducible exact H2_) | with_reducible exact H | (rw [hy133]; exact H) | exact H
           have Ny133 := sA hy133
           clear hy133
           have H' := sA H
           clear H
           have p114 : 0 ≤ (x31_2 : Int) := of_decide_eq_true (by first | (with_reducible assumption) | assumption)
           have q114 : x31_2 < (l1.length : Int) := of_decide_eq_true (by first | (with_reducible assumption) | assumption)
           obtain ⟨ad114, e114, hx114_0⟩ := Kd.at_int HR1.out x31_2 p114 q114
           cases e114
           replace hx114_0 := (HB.out.cell (World.block_lt_of_cell? w _ hx114_0)).trans hx114_0
           replace p114 := eq_true p114
           replace q114 := eq_true q114
           have hcz21_0 : wr.cell? ⟨gb109, 0, none⟩ = some (.int .i64 x110000_2) := sC BK109 0 rfl
           have hcz21_1 : wr.cell? ⟨gb109, 1, none⟩ = some (u110001) := sC BK109 1 rfl
           have hcz21_2 : wr.cell? ⟨gb109, 2, none⟩ = some (u110002) := sC BK109 2 rfl
           have hfz21_0 := blk_frozen BK109.out 0
           have hfz21_1 := blk_frozen BK109.out 1
           have hfz21_2 := blk_frozen BK109.out 2
           go_wp2_with (first | ((with_reducible refine gate_dst (N := 41) rfl ?_); refine Kd.R_lit k59 _ 59 ?hg (N := 41) ?hd (xs := ([(⟨rd l1 x31_2, wrap64 ((rd l1 x31_2) + 1)⟩ : S59)] : List (S59))) (inner := [.int .i64 (rd l1 x31_2), .int .i64 (wrap64 ((rd l1 x31_2) + 1))]) (ok := fun _ => True) (okp := fun _ => True) ?hr ?hp (fun _ hk => hk) trivial (Below.refl _ _) (Nat.le_refl _) (by simp) ?_; (case hd => rfl); (case hg => rfl); (case hr => first | (go_simp; done) | (go_simp; rfl)); (case hp => exact (Reps.c2 (show Kd.M k59 _ _ _ (⟨rd l1 x31_2, wrap64 ((rd l1 x31_2) + 1)⟩ : S59) [.int .i64 (rd l1 x31_2), .int .i64 (wrap64 ((rd l1 x31_2) + 1))] from (k59_mkM _ _ _ (⟨rd l1 x31_2, wrap64 ((rd l1 x31_2) + 1)⟩ : S59) )) (Reps.none _ _))); intro v116 w22 ho23 hb hg_ hnew_; clear hg_ hnew_; (first | rw [← Ny115.out] at ho23 | (simp only [Int.reduceToNat] at ho23; rw [← Ny115.out] at ho23)); have n0_ := sA (Kd.R_below (sR HO_8.out) hb); have n1_ := sA (Kd.R_elder' (sR HO_110001.out) (Kd.R_base ho23) hb); have n2_ := sA (Kd.R_below (sR HO_110002.out) hb); have n3_ := sA (Kd.R_lower (Kd.R_new' ho23 (Kd.R_lt (sR HO_110001.out))) (below_size (by repeat (first | (with_reducible first | exact HB.out | apply sLA | apply sLN | apply sLD | refine sLS ?_ GE109.out) | exact HB.out)))); have n4_ := sA (blk_below (sB BK109.out) hb); have n5_ := sA (below_step (by repeat (first | (with_reducible first | exact HB.out | apply sLA | apply sLN | apply sLD | refine sLS ?_ GE109.out) | exact HB.out)) hb); clear HO_8; clear HO_110001; clear HO_110002; clear BK109; clear HB; have HO_8 := n0_; have HO_110001 := n1_; have HO_110002 := n2_; have HO117 := n3_; have BK109 := n4_; have HB := n5_; clear n0_ n1_ n2_ n3_ n4_ n5_; clear hb ho23; obtain ⟨Ao24, co24, eo24⟩ := Kd.R_slice HO_110001.out; subst eo24; obtain ⟨Ao25, co25, eo25⟩ := Kd.R_slice HO_110002.out; subst eo25; obtain ⟨Ao26, co26, eo26⟩ := Kd.R_slice HO117.out; subst eo26) | ((with_reducible refine gate_callee (f := 23) rfl ?_); refine goesL_ (some 42) rfl rfl Try.func23 (by kernel_rfl) rfl #[.agg #[.int .i64 x110000_2, .slice Ao24 x110001_2.length co24, .slice Ao25 x110002_2.length co25], .slice Ao26 y115.length co26] rfl (by (try simp only [List.map_toArray, List.map_cons, List.map_nil]); first | done | rfl | (simp only [List.length_drop, List.length_take]; rfl)) ?_; (with_reducible refine (impl_HearSpans.calls k2 x110000_2 _ _ x110001_2 _ _ x110002_2 _ _ y115 t118 t119 t122 t125 t128 true _ ?side1 ?side2 ?side3 ?side4 ?side5 ?side6 A18.out).mono ?_); (case side1 => repeat (first | exact (Kd.R_reads' HO_110001.out).2.2 | (with_reducible refine Kd.C_alloc ?_ _) | (with_reducible refine Kd.C_drewN ?_ _) | (with_reducible refine Kd.C_drew ?_))); (case side2 => exact (Kd.R_reads' HO_110001.out).2.1); (case side3 => repeat (first | exact (Kd.R_reads' HO_110002.out).2.2 | (with_reducible refine Kd.C_alloc ?_ _) | (with_reducible refine Kd.C_drewN ?_ _) | (with_reducible refine Kd.C_drew ?_))); (case side4 => exact (Kd.R_reads' HO_110002.out).2.1); (case side5 => repeat (first | exact (Kd.R_reads' HO117.out).2.2 | (with_reducible refine Kd.C_alloc ?_ _) | (with_reducible refine Kd.C_drewN ?_ _) | (with_reducible refine Kd.C_drew ?_))); (case side6 => exact (Kd.R_reads' HO117.out).2.1); rintro e w27 ⟨v120, v123, v126, v129, rfl, ho0, ho1, ho2, ho3, hb⟩; refine ⟨_, rfl, ?_⟩; have n0_ := sA (Kd.R_mono (Kd.R_told (Kd.R_told (Kd.R_told (Kd.R_old (sR HO_8.out) hb) (Kd.R_base ho1)) (Kd.R_base ho2)) (Kd.R_base ho3)) (fun _ h_ => h_.1)); have n1_ := sA (Kd.R_elder' (sR HO_110001.out) (Kd.R_base ho0) hb); have n2_ := sA (Kd.R_mono (Kd.R_told (Kd.R_told (Kd.R_told (Kd.R_old (sR HO_110002.out) hb) (Kd.R_base ho1)) (Kd.R_base ho2)) (Kd.R_base ho3)) (fun _ h_ => h_.1)); have n3_ := sA (Kd.R_elder' (sR HO117.out) (Kd.R_base ho0) hb); have n4_ := sA (Kd.R_lower (Kd.R_new' (Kd.R_new' ho0 (Kd.R_lt (sR HO_110001.out))) (Kd.R_lt (sR HO117.out))) (below_size (by repeat (first | (with_reducible first | exact HB.out | apply sLA | apply sLN | apply sLD | refine sLS ?_ GE109.out) | exact HB.out)))); have n5_ := sA (Kd.R_lower (Kd.R_new' (Kd.R_new' ho1 (Kd.R_lt (sR HO_8.out))) (Kd.R_lt (sR HO_110002.out))) (below_size (by repeat (first | (with_reducible first | exact HB.out | apply sLA | apply sLN | apply sLD | refine sLS ?_ GE109.out) | exact HB.out)))); have n6_ := sA (Kd.R_lower (Kd.R_new' (Kd.R_new' ho2 (Kd.R_lt (sR HO_8.out))) (Kd.R_lt (sR HO_110002.out))) (below_size (by repeat (first | (with_reducible first | exact HB.out | apply sLA | apply sLN | apply sLD | refine sLS ?_ GE109.out) | exact HB.out)))); have n7_ := sA (Kd.R_lower (Kd.R_new' (Kd.R_new' ho3 (Kd.R_lt (sR HO_8.out))) (Kd.R_lt (sR HO_110002.out))) (below_size (by repeat (first | (with_reducible first | exact HB.out | apply sLA | apply sLN | apply sLD | refine sLS ?_ GE109.out) | exact HB.out)))); have n8_ := sA (blk_below (sB BK109.out) hb); have n9_ := sA (below_step (by repeat (first | (with_reducible first | exact HB.out | apply sLA | apply sLN | apply sLD | refine sLS ?_ GE109.out) | exact HB.out)) hb); clear HO_8; clear HO_110001; clear HO_110002; clear HO117; clear BK109; clear HB; have HO_8 := n0_; have HO_110001 := n1_; have HO_110002 := n2_; have HO117 := n3_; have HO121 := n4_; have HO124 := n5_; have HO127 := n6_; have HO130 := n7_; have BK109 := n8_; have HB := n9_; clear n0_ n1_ n2_ n3_ n4_ n5_ n6_ n7_ n8_ n9_; (try clear hb); (try clear hb2); (try clear hk); (try clear hi); (try clear ho0); (try clear ho1); (try clear ho2); (try clear ho3)) | ((with_reducible refine gate_dst (N := 11) rfl ?_); refine box_event ?hg (N := 11) ?hd (cs := #[.int .i64 0, .slice none 0 0, .slice none 0 0]) (t := 31) ?hr ?_; (case hd => rfl); (case hg => rfl); (case hr => first | (go_simp; done) | (go_simp; rfl)); intro gb132 hg w28 hbox hb; have n0_ := sA (Kd.R_below (sR HO_8.out) hb); have n1_ := sA (Kd.R_below (sR HO_110001.out) hb); have n2_ := sA (Kd.R_below (sR HO_110002.out) hb); have n3_ := sA (Kd.R_below (sR HO117.out) hb); have n4_ := sA (Kd.R_below (sR HO121.out) hb); have n5_ := sA (Kd.R_below (sR HO124.out) hb); have n6_ := sA (Kd.R_below (sR HO127.out) hb); have n7_ := sA (Kd.R_below (sR HO130.out) hb); have n8_ := sA (blk_below (sB BK109.out) hb); have n9_ := sA (below_step (by repeat (first | (with_reducible first | exact HB.out | apply sLA | apply sLN | apply sLD | refine sLS ?_ GE109.out) | exact HB.out)) hb); have n10_ := sA (hbox); have n11_ := sA ((by rw [hg]; exact (below_size (by repeat (first | (with_reducible first | exact HB.out | apply sLA | apply sLN | apply sLD | refine sLS ?_ GE109.out) | exact HB.out))) : w.heap.size ≤ gb132)); have n12_ := sA ((by rw [hg]; exact (below_size (by repeat (first | (with_reducible first | exact HB.out | apply sLA | apply sLN | apply sLD | refine sLS ?_ GE109.out) | exact HB.out))) : w.heap.size ≤ gb132)); have n13_ := sA ((by rw [hg]; exact Nat.ne_of_lt (blk_lt (sB BK109.out)) : gb109 ≠ gb132)); have n14_ := sA ((by rw [hg]; exact Nat.ne_of_gt (blk_lt (sB BK109.out)) : gb132 ≠ gb109)); clear HO_8; clear HO_110001; clear HO_110002; clear HO117; clear HO121; clear HO124; clear HO127; clear HO130; clear BK109; clear HB; have HO_8 := n0_; have HO_110001 := n1_; have HO_110002 := n2_; have HO117 := n3_; have HO121 := n4_; have HO124 := n5_; have HO127 := n6_; have HO130 := n7_; have BK109 := n8_; have HB := n9_; have BK132 := n10_; have GW132 := n11_; have GE132 := n12_; have NB109_132 := n13_; have NB132_109 := n14_; clear n0_ n1_ n2_ n3_ n4_ n5_ n6_ n7_ n8_ n9_ n10_ n11_ n12_ n13_ n14_; clear hb hbox hg; have hnb29 := NB132_109.out; have hnc29 := NB109_132.out; have hcz30_0 : w28.cell? ⟨gb132, 0, none⟩ = some (.int .i64 0) := sC BK132 0 rfl; have hcz30_1 : w28.cell? ⟨gb132, 1, none⟩ = some (.slice none 0 0) := sC BK132 1 rfl; have hcz30_2 : w28.cell? ⟨gb132, 2, none⟩ = some (.slice none 0 0) := sC BK132 2 rfl; have hfz30_0 := blk_frozen BK132.out 0; have hfz30_1 := blk_frozen BK132.out 1; have hfz30_2 := blk_frozen BK132.out 2; obtain ⟨Ao31, co31, eo31⟩ := Kd.R_slice HO121.out; subst eo31; obtain ⟨Ao32, co32, eo32⟩ := Kd.R_slice HO124.out; subst eo32; have hcz33_0 : w28.cell? ⟨gb109, 0, none⟩ = some (.int .i64 x110000_2) := sC BK109 0 rfl; have hcz33_1 : w28.cell? ⟨gb109, 1, none⟩ = some (.slice Ao24 x110001_2.length co24) := sC BK109 1 rfl; have hcz33_2 : w28.cell? ⟨gb109, 2, none⟩ = some (.slice Ao25 x110002_2.length co25) := sC BK109 2 rfl; have hfz33_0 := blk_frozen BK109.out 0; have hfz33_1 := blk_frozen BK109.out 1; have hfz33_2 := blk_frozen BK109.out 2; obtain ⟨Ao35, co35, eo35⟩ := Kd.R_slice HO130.out; subst eo35) | ((with_reducible refine gate_builtin (b := .append) (xs := #[.tmp 50, .tmp 51]) rfl ?_); at_builtin; refine Kd.R_append_rows (Kd.int .i64) (w0 := w) w.heap.size rfl (.tmp 50) (.tmp 51) 23 3 (.int .i64 0) 8 rfl Try.underlying23 info3 rfl (by decide) (by omega) u8 x8_2 t128 _ _ _ (fun k_ => some k_ ≠ (.slice Ao25 x110002_2.length co25 : Value).ownBlock ∧ some k_ ≠ (.slice Ao32 t122.length co32 : Value).ownBlock ∧ some k_ ≠ (v126 : Value).ownBlock ∧ some k_ ≠ (.slice Ao35 t128.length co35 : Value).ownBlock) (fun _ => False) rfl rfl ?aO ?aR (fun _ _ h => h) (fun _ h => h.elim) ?aF ?aB ?aS ?aL ?_; (case aR => refine (Kd.R_reads' (e := 3) (base := w.heap.size) (ok := fun k_ => (((some k_ ≠ (.slice Ao32 t122.length co32 : Value).ownBlock ∧ some k_ ≠ (v126 : Value).ownBlock) ∧ some k_ ≠ (u8 : Value).ownBlock) ∧ some k_ ≠ (.slice Ao25 x110002_2.length co25 : Value).ownBlock)) (n := t128.length) (c := co35) ?_).2.2; exact (sR (Kd.R_mono (Kd.R_mono (Kd.R_far (p := ⟨gb109, 2, none⟩) (Kd.R_far (p := ⟨gb109, 1, none⟩) (Kd.R_far (p := ⟨gb109, 0, none⟩) (Kd.R_far (p := ⟨gb132, 2, none⟩) (Kd.R_far (p := ⟨gb132, 1, none⟩) (Kd.R_far (p := ⟨gb132, 0, none⟩) (Kd.R_types (Kd.R_types HO130.out BK132.out (by decide)) BK109.out (by decide)) (fun _ hk => hk.1.2) (.int .i64 t118)) (fun _ hk => hk.1.2) (.slice Ao31 t119.length co31)) (fun _ hk => hk.1.2) (.slice Ao32 t122.length co32)) (fun _ hk => hk.2) (.int .i64 t118)) (fun _ hk => hk.2) (.slice Ao31 t119.length co31)) (fun _ hk => hk.2) (.slice Ao32 t122.length co32)) (fun _ h_ => h_.1)) (fun _ h_ => h_.1)))); (case aB => exact (by repeat (first | (with_reducible first | exact HB.out | apply sLA | apply sLN | apply sLD | refine sLS ?_ (Aside0.out (by assumption))) | exact HB.out))); (case aF => exact (fun k_ hk => ⟨Kd.fresh' (Kd.R_lt (sR (Kd.R_mono (Kd.R_mono (Kd.R_far (p := ⟨gb109, 2, none⟩) (Kd.R_far (p := ⟨gb109, 1, none⟩) (Kd.R_far (p := ⟨gb109, 0, none⟩) (Kd.R_far (p := ⟨gb132, 2, none⟩) (Kd.R_far (p := ⟨gb132, 1, none⟩) (Kd.R_far (p := ⟨gb132, 0, none⟩) (Kd.R_types (Kd.R_types HO_110002.out BK132.out (by decide)) BK109.out (by decide)) (fun _ hk => hk.1.2) (.int .i64 t118)) (fun _ hk => hk.1.2) (.slice Ao31 t119.length co31)) (fun _ hk => hk.1.2) (.slice Ao32 t122.length co32)) (fun _ hk => hk.2) (.int .i64 t118)) (fun _ hk => hk.2) (.slice Ao31 t119.length co31)) (fun _ hk => hk.2) (.slice Ao32 t122.length co32)) (fun _ h_ => h_.1)) (fun _ h_ => h_.1)))) k_ hk, Kd.fresh' (Kd.R_lt (sR (Kd.R_mono (Kd.R_mono (Kd.R_far (p := ⟨gb109, 2, none⟩) (Kd.R_far (p := ⟨gb109, 1, none⟩) (Kd.R_far (p := ⟨gb109, 0, none⟩) (Kd.R_far (p := ⟨gb132, 2, none⟩) (Kd.R_far (p := ⟨gb132, 1, none⟩) (Kd.R_far (p := ⟨gb132, 0, none⟩) (Kd.R_types (Kd.R_types HO124.out BK132.out (by decide)) BK109.out (by decide)) (fun _ hk => hk.1.2) (.int .i64 t118)) (fun _ hk => hk.1.2) (.slice Ao31 t119.length co31)) (fun _ hk => hk.1.2) (.slice Ao32 t122.length co32)) (fun _ hk => hk.2) (.int .i64 t118)) (fun _ hk => hk.2) (.slice Ao31 t119.length co31)) (fun _ hk => hk.2) (.slice Ao32 t122.length co32)) (fun _ h_ => h_.1)) (fun _ h_ => h_.1)))) k_ hk, Kd.fresh' (Kd.R_lt (sR (Kd.R_mono (Kd.R_mono (Kd.R_far (p := ⟨gb109, 2, none⟩) (Kd.R_far (p := ⟨gb109, 1, none⟩) (Kd.R_far (p := ⟨gb109, 0, none⟩) (Kd.R_far (p := ⟨gb132, 2, none⟩) (Kd.R_far (p := ⟨gb132, 1, none⟩) (Kd.R_far (p := ⟨gb132, 0, none⟩) (Kd.R_types (Kd.R_types HO127.out BK132.out (by decide)) BK109.out (by decide)) (fun _ hk => hk.1.2) (.int .i64 t118)) (fun _ hk => hk.1.2) (.slice Ao31 t119.length co31)) (fun _ hk => hk.1.2) (.slice Ao32 t122.length co32)) (fun _ hk => hk.2) (.int .i64 t118)) (fun _ hk => hk.2) (.slice Ao31 t119.length co31)) (fun _ hk => hk.2) (.slice Ao32 t122.length co32)) (fun _ h_ => h_.1)) (fun _ h_ => h_.1)))) k_ hk, Kd.fresh' (Kd.R_lt (sR (Kd.R_mono (Kd.R_mono (Kd.R_far (p := ⟨gb109, 2, none⟩) (Kd.R_far (p := ⟨gb109, 1, none⟩) (Kd.R_far (p := ⟨gb109, 0, none⟩) (Kd.R_far (p := ⟨gb132, 2, none⟩) (Kd.R_far (p := ⟨gb132, 1, none⟩) (Kd.R_far (p := ⟨gb132, 0, none⟩) (Kd.R_types (Kd.R_types HO130.out BK132.out (by decide)) BK109.out (by decide)) (fun _ hk => hk.1.2) (.int .i64 t118)) (fun _ hk => hk.1.2) (.slice Ao31 t119.length co31)) (fun _ hk => hk.1.2) (.slice Ao32 t122.length co32)) (fun _ hk => hk.2) (.int .i64 t118)) (fun _ hk => hk.2) (.slice Ao31 t119.length co31)) (fun _ hk => hk.2) (.slice Ao32 t122.length co32)) (fun _ h_ => h_.1)) (fun _ h_ => h_.1)))) k_ hk⟩)); (case aO => exact (sR (Kd.R_mono (Kd.R_far (p := ⟨gb109, 2, none⟩) (Kd.R_far (p := ⟨gb109, 1, none⟩) (Kd.R_far (p := ⟨gb109, 0, none⟩) (Kd.R_far (p := ⟨gb132, 2, none⟩) (Kd.R_far (p := ⟨gb132, 1, none⟩) (Kd.R_far (p := ⟨gb132, 0, none⟩) (Kd.R_types (Kd.R_types HO_8.out BK132.out (by decide)) BK109.out (by decide)) (fun _ hk => hk.1.2) (.int .i64 t118)) (fun _ hk => hk.1.2) (.slice Ao31 t119.length co31)) (fun _ hk => hk.1.2) (.slice Ao32 t122.length co32)) (fun _ hk => hk.2) (.int .i64 t118)) (fun _ hk => hk.2) (.slice Ao31 t119.length co31)) (fun _ hk => hk.2) (.slice Ao32 t122.length co32)) (fun _ hk => ⟨hk.1.1.1.1.1, ⟨hk.1.1.1.1.2, ⟨hk.1.1.1.2, hk.1.1.2⟩⟩⟩)))); (case aS => exact (below_size (by repeat (first | (with_reducible first | exact HB.out | apply sLA | apply sLN | apply sLD | refine sLS ?_ (Aside0.out (by assumption))) | exact HB.out)))); (case aL => have := LMc20.out; omega); intro v134 w34 ho hb hg hat; rw [← Ny133.out] at ho; have n0_ := sA (Kd.R_over' (sR (Kd.R_mono (Kd.R_mono (Kd.R_far (p := ⟨gb109, 2, none⟩) (Kd.R_far (p := ⟨gb109, 1, none⟩) (Kd.R_far (p := ⟨gb109, 0, none⟩) (Kd.R_far (p := ⟨gb132, 2, none⟩) (Kd.R_far (p := ⟨gb132, 1, none⟩) (Kd.R_far (p := ⟨gb132, 0, none⟩) (Kd.R_types (Kd.R_types HO_110001.out BK132.out (by decide)) BK109.out (by decide)) (fun _ hk => hk.1.2) (.int .i64 t118)) (fun _ hk => hk.1.2) (.slice Ao31 t119.length co31)) (fun _ hk => hk.1.2) (.slice Ao32 t122.length co32)) (fun _ hk => hk.2) (.int .i64 t118)) (fun _ hk => hk.2) (.slice Ao31 t119.length co31)) (fun _ hk => hk.2) (.slice Ao32 t122.length co32)) (fun _ h_ => h_.1)) (fun _ h_ => h_.1))) (Kd.R_typed (sR (Kd.R_mono (Kd.R_mono (Kd.R_far (p := ⟨gb109, 2, none⟩) (Kd.R_far (p := ⟨gb109, 1, none⟩) (Kd.R_far (p := ⟨gb109, 0, none⟩) (Kd.R_far (p := ⟨gb132, 2, none⟩) (Kd.R_far (p := ⟨gb132, 1, none⟩) (Kd.R_far (p := ⟨gb132, 0, none⟩) (Kd.R_types (Kd.R_types HO_8.out BK132.out (by decide)) BK109.out (by decide)) (fun _ hk => hk.1.2) (.int .i64 t118)) (fun _ hk => hk.1.2) (.slice Ao31 t119.length co31)) (fun _ hk => hk.1.2) (.slice Ao32 t122.length co32)) (fun _ hk => hk.2) (.int .i64 t118)) (fun _ hk => hk.2) (.slice Ao31 t119.length co31)) (fun _ hk => hk.2) (.slice Ao32 t122.length co32)) (fun _ h_ => h_.1)) (fun _ h_ => h_.1)))) (by decide) hg); have n1_ := sA (Kd.R_after (ok := (fun k_ => some k_ ≠ (.slice Ao32 t122.length co32 : Value).ownBlock ∧ some k_ ≠ (v126 : Value).ownBlock ∧ some k_ ≠ (.slice Ao35 t128.length co35 : Value).ownBlock)) (sR (Kd.R_mono (Kd.R_far (p := ⟨gb109, 2, none⟩) (Kd.R_far (p := ⟨gb109, 1, none⟩) (Kd.R_far (p := ⟨gb109, 0, none⟩) (Kd.R_far (p := ⟨gb132, 2, none⟩) (Kd.R_far (p := ⟨gb132, 1, none⟩) (Kd.R_far (p := ⟨gb132, 0, none⟩) (Kd.R_types (Kd.R_types HO_110002.out BK132.out (by decide)) BK109.out (by decide)) (fun _ hk => hk.1.2) (.int .i64 t118)) (fun _ hk => hk.1.2) (.slice Ao31 t119.length co31)) (fun _ hk => hk.1.2) (.slice Ao32 t122.length co32)) (fun _ hk => hk.2) (.int .i64 t118)) (fun _ hk => hk.2) (.slice Ao31 t119.length co31)) (fun _ hk => hk.2) (.slice Ao32 t122.length co32)) (fun _ hk => ⟨⟨hk.1.1.1.1.2, ⟨hk.1.1.1.2, hk.1.1.2⟩⟩, hk.1.1.1.1.1⟩))) hg hat); have n2_ := sA (blk_grown (g := gb109) (o := .cells #[.int .i64 t118, .slice Ao31 t119.length co31, .slice Ao32 t122.length co32] 31 (0, 0)) (by (with_reducible repeat first | apply blk_drewN | apply blk_drew | apply blk_alloc); refine blk_put (cs := #[.int .i64 t118, .slice Ao31 t119.length co31, .slice Ao25 x110002_2.length co25]) ?_ 2 _ rfl; (with_reducible repeat first | apply blk_drewN | apply blk_drew | apply blk_alloc); refine blk_put (cs := #[.int .i64 t118, .slice Ao24 x110001_2.length co24, .slice Ao25 x110002_2.length co25]) ?_ 1 _ rfl; (with_reducible repeat first | apply blk_drewN | apply blk_drew | apply blk_alloc); refine blk_put (cs := #[.int .i64 x110000_2, .slice Ao24 x110001_2.length co24, .slice Ao25 x110002_2.length co25]) ?_ 0 _ rfl; (with_reducible repeat first | apply blk_drewN | apply blk_drew | apply blk_alloc); refine blk_far ?_ NB109_132.out _; (with_reducible repeat first | apply blk_drewN | apply blk_drew | apply blk_alloc); refine blk_far ?_ NB109_132.out _; (with_reducible repeat first | apply blk_drewN | apply blk_drew | apply blk_alloc); refine blk_far ?_ NB109_132.out _; (with_reducible repeat first | apply blk_drewN | apply blk_drew | apply blk_alloc); exact BK109.out) hg (Kd.R_ne HO_8.out BK109.out (by decide))); have n3_ := sA (Kd.R_over' (sR (Kd.R_mono (Kd.R_mono (Kd.R_far (p := ⟨gb109, 2, none⟩) (Kd.R_far (p := ⟨gb109, 1, none⟩) (Kd.R_far (p := ⟨gb109, 0, none⟩) (Kd.R_far (p := ⟨gb132, 2, none⟩) (Kd.R_far (p := ⟨gb132, 1, none⟩) (Kd.R_far (p := ⟨gb132, 0, none⟩) (Kd.R_types (Kd.R_types HO117.out BK132.out (by decide)) BK109.out (by decide)) (fun _ hk => hk.1.2) (.int .i64 t118)) (fun _ hk => hk.1.2) (.slice Ao31 t119.length co31)) (fun _ hk => hk.1.2) (.slice Ao32 t122.length co32)) (fun _ hk => hk.2) (.int .i64 t118)) (fun _ hk => hk.2) (.slice Ao31 t119.length co31)) (fun _ hk => hk.2) (.slice Ao32 t122.length co32)) (fun _ h_ => h_.1)) (fun _ h_ => h_.1))) (Kd.R_typed (sR (Kd.R_mono (Kd.R_mono (Kd.R_far (p := ⟨gb109, 2, none⟩) (Kd.R_far (p := ⟨gb109, 1, none⟩) (Kd.R_far (p := ⟨gb109, 0, none⟩) (Kd.R_far (p := ⟨gb132, 2, none⟩) (Kd.R_far (p := ⟨gb132, 1, none⟩) (Kd.R_far (p := ⟨gb132, 0, none⟩) (Kd.R_types (Kd.R_types HO_8.out BK132.out (by decide)) BK109.out (by decide)) (fun _ hk => hk.1.2) (.int .i64 t118)) (fun _ hk => hk.1.2) (.slice Ao31 t119.length co31)) (fun _ hk => hk.1.2) (.slice Ao32 t122.length co32)) (fun _ hk => hk.2) (.int .i64 t118)) (fun _ hk => hk.2) (.slice Ao31 t119.length co31)) (fun _ hk => hk.2) (.slice Ao32 t122.length co32)) (fun _ h_ => h_.1)) (fun _ h_ => h_.1)))) (by decide) hg); have n4_ := sA (Kd.R_over' (sR (Kd.R_mono (Kd.R_mono (Kd.R_far (p := ⟨gb109, 2, none⟩) (Kd.R_far (p := ⟨gb109, 1, none⟩) (Kd.R_far (p := ⟨gb109, 0, none⟩) (Kd.R_far (p := ⟨gb132, 2, none⟩) (Kd.R_far (p := ⟨gb132, 1, none⟩) (Kd.R_far (p := ⟨gb132, 0, none⟩) (Kd.R_types (Kd.R_types HO121.out BK132.out (by decide)) BK109.out (by decide)) (fun _ hk => hk.1.2) (.int .i64 t118)) (fun _ hk => hk.1.2) (.slice Ao31 t119.length co31)) (fun _ hk => hk.1.2) (.slice Ao32 t122.length co32)) (fun _ hk => hk.2) (.int .i64 t118)) (fun _ hk => hk.2) (.slice Ao31 t119.length co31)) (fun _ hk => hk.2) (.slice Ao32 t122.length co32)) (fun _ h_ => h_.1)) (fun _ h_ => h_.1))) (Kd.R_typed (sR (Kd.R_mono (Kd.R_mono (Kd.R_far (p := ⟨gb109, 2, none⟩) (Kd.R_far (p := ⟨gb109, 1, none⟩) (Kd.R_far (p := ⟨gb109, 0, none⟩) (Kd.R_far (p := ⟨gb132, 2, none⟩) (Kd.R_far (p := ⟨gb132, 1, none⟩) (Kd.R_far (p := ⟨gb132, 0, none⟩) (Kd.R_types (Kd.R_types HO_8.out BK132.out (by decide)) BK109.out (by decide)) (fun _ hk => hk.1.2) (.int .i64 t118)) (fun _ hk => hk.1.2) (.slice Ao31 t119.length co31)) (fun _ hk => hk.1.2) (.slice Ao32 t122.length co32)) (fun _ hk => hk.2) (.int .i64 t118)) (fun _ hk => hk.2) (.slice Ao31 t119.length co31)) (fun _ hk => hk.2) (.slice Ao32 t122.length co32)) (fun _ h_ => h_.1)) (fun _ h_ => h_.1)))) (by decide) hg); have n5_ := sA (Kd.R_after (ok := (fun k_ => some k_ ≠ (.slice Ao25 x110002_2.length co25 : Value).ownBlock ∧ some k_ ≠ (v126 : Value).ownBlock ∧ some k_ ≠ (.slice Ao35 t128.length co35 : Value).ownBlock)) (sR (Kd.R_mono (Kd.R_far (p := ⟨gb109, 2, none⟩) (Kd.R_far (p := ⟨gb109, 1, none⟩) (Kd.R_far (p := ⟨gb109, 0, none⟩) (Kd.R_far (p := ⟨gb132, 2, none⟩) (Kd.R_far (p := ⟨gb132, 1, none⟩) (Kd.R_far (p := ⟨gb132, 0, none⟩) (Kd.R_types (Kd.R_types HO124.out BK132.out (by decide)) BK109.out (by decide)) (fun _ hk => hk.1.2) (.int .i64 t118)) (fun _ hk => hk.1.2) (.slice Ao31 t119.length co31)) (fun _ hk => hk.1.2) (.slice Ao32 t122.length co32)) (fun _ hk => hk.2) (.int .i64 t118)) (fun _ hk => hk.2) (.slice Ao31 t119.length co31)) (fun _ hk => hk.2) (.slice Ao32 t122.length co32)) (fun _ hk => ⟨⟨hk.1.1.2, ⟨hk.1.1.1.1.1, hk.1.1.1.1.2⟩⟩, hk.1.1.1.2⟩))) hg hat); have n6_ := sA (Kd.R_after (ok := (fun k_ => some k_ ≠ (.slice Ao25 x110002_2.length co25 : Value).ownBlock ∧ some k_ ≠ (.slice Ao32 t122.length co32 : Value).ownBlock ∧ some k_ ≠ (.slice Ao35 t128.length co35 : Value).ownBlock)) (sR (Kd.R_mono (Kd.R_far (p := ⟨gb109, 2, none⟩) (Kd.R_far (p := ⟨gb109, 1, none⟩) (Kd.R_far (p := ⟨gb109, 0, none⟩) (Kd.R_far (p := ⟨gb132, 2, none⟩) (Kd.R_far (p := ⟨gb132, 1, none⟩) (Kd.R_far (p := ⟨gb132, 0, none⟩) (Kd.R_types (Kd.R_types HO127.out BK132.out (by decide)) BK109.out (by decide)) (fun _ hk => hk.1.2) (.int .i64 t118)) (fun _ hk => hk.1.2) (.slice Ao31 t119.length co31)) (fun _ hk => hk.1.2) (.slice Ao32 t122.length co32)) (fun _ hk => hk.2) (.int .i64 t118)) (fun _ hk => hk.2) (.slice Ao31 t119.length co31)) (fun _ hk => hk.2) (.slice Ao32 t122.length co32)) (fun _ hk => ⟨⟨hk.1.1.2, ⟨hk.1.1.1.1.1, hk.1.1.1.1.2⟩⟩, hk.1.1.1.2⟩))) hg hat); have n7_ := sA (Kd.R_after (ok := (fun k_ => some k_ ≠ (.slice Ao25 x110002_2.length co25 : Value).ownBlock ∧ some k_ ≠ (.slice Ao32 t122.length co32 : Value).ownBlock ∧ some k_ ≠ (v126 : Value).ownBlock)) (sR (Kd.R_mono (Kd.R_far (p := ⟨gb109, 2, none⟩) (Kd.R_far (p := ⟨gb109, 1, none⟩) (Kd.R_far (p := ⟨gb109, 0, none⟩) (Kd.R_far (p := ⟨gb132, 2, none⟩) (Kd.R_far (p := ⟨gb132, 1, none⟩) (Kd.R_far (p := ⟨gb132, 0, none⟩) (Kd.R_types (Kd.R_types HO130.out BK132.out (by decide)) BK109.out (by decide)) (fun _ hk => hk.1.2) (.int .i64 t118)) (fun _ hk => hk.1.2) (.slice Ao31 t119.length co31)) (fun _ hk => hk.1.2) (.slice Ao32 t122.length co32)) (fun _ hk => hk.2) (.int .i64 t118)) (fun _ hk => hk.2) (.slice Ao31 t119.length co31)) (fun _ hk => hk.2) (.slice Ao32 t122.length co32)) (fun _ hk => ⟨⟨hk.1.1.2, ⟨hk.1.1.1.1.1, hk.1.1.1.1.2⟩⟩, hk.1.1.1.2⟩))) hg hat); have n8_ := sA (blk_grown (g := gb132) (o := .cells #[.int .i64 t118, .slice Ao31 t119.length co31, .slice Ao32 t122.length co32] 31 (0, 0)) (by (with_reducible repeat first | apply blk_drewN | apply blk_drew | apply blk_alloc); refine blk_far ?_ NB132_109.out _; (with_reducible repeat first | apply blk_drewN | apply blk_drew | apply blk_alloc); refine blk_far ?_ NB132_109.out _; (with_reducible repeat first | apply blk_drewN | apply blk_drew | apply blk_alloc); refine blk_far ?_ NB132_109.out _; (with_reducible repeat first | apply blk_drewN | apply blk_drew | apply blk_alloc); refine blk_put (cs := #[.int .i64 t118, .slice Ao31 t119.length co31, .slice none 0 0]) ?_ 2 _ rfl; (with_reducible repeat first | apply blk_drewN | apply blk_drew | apply blk_alloc); refine blk_put (cs := #[.int .i64 t118, .slice none 0 0, .slice none 0 0]) ?_ 1 _ rfl; (with_reducible repeat first | apply blk_drewN | apply blk_drew | apply blk_alloc); refine blk_put (cs := #[.int .i64 0, .slice none 0 0, .slice none 0 0]) ?_ 0 _ rfl; (with_reducible repeat first | apply blk_drewN | apply blk_drew | apply blk_alloc); exact BK132.out) hg (Kd.R_ne HO_8.out BK132.out (by decide))); have n9_ := sA (hb); have n10_ := sA (ho); clear HO_110001; clear HO_110002; clear BK109; clear HO117; clear HO121; clear HO124; clear HO127; clear HO130; clear BK132; clear HB; clear HO_8; have HO_110001 := n0_; have HO_110002 := n1_; have BK109 := n2_; have HO117 := n3_; have HO121 := n4_; have HO124 := n5_; have HO127 := n6_; have HO130 := n7_; have BK132 := n8_; have HB := n9_; have HO135 := n10_; clear n0_ n1_ n2_ n3_ n4_ n5_ n6_ n7_ n8_ n9_ n10_; clear ho hb hg hat))
           go_roundg k2
           case measure => have := HJ3.out; have := HK2.out; omega
           case rel => exact ⟨(y133), (wrap64 (x31_2 + 1)), (t118), (t119), (t122), (.slice Ao31 t119.length co31), (.slice Ao32 t122.length co32), (by first | rfl | (simp; done) | (simp [*]; done)), H', ⟨by have := HJ3.out; have := HK2.out; omega⟩, ⟨sR (Kd.R_mono HO135.out (fun _ hk => hk.2.1))⟩, ⟨sR (Kd.R_mono HO121.out (fun _ hk => trivial))⟩, ⟨sR (Kd.R_mono HO124.out (fun _ hk => hk.2))⟩, ⟨sB BK109.out⟩, ⟨by repeat (first | (with_reducible first | exact HB.out | apply sLA | apply sLN | apply sLD | refine sLS ?_ GE109.out | refine sLS ?_ GE132.out) | exact HB.out)⟩⟩
          ·rw [if_neg c20] at H
           exact absurd H (by simp)
         ·replace c19 := Bool.eq_false_iff.mpr c19
          subst c19
          have H1 : (some (([] : List Int), false)) = some (r1, r2) := by rw [if_neg (show ¬ (false = true) by decide)] at H; exact H
          clear H
          have H := H1
          clear H1
          simp only [Option.some.injEq, Prod.mk.injEq] at H
          obtain ⟨rfl, rfl⟩ := H
          have p114 : 0 ≤ (x31_2 : Int) := of_decide_eq_true (by first | (with_reducible assumption) | assumption)
          have q114 : x31_2 < (l1.length : Int) := of_decide_eq_true (by first | (with_reducible assumption) | assumption)
          obtain ⟨ad114, e114, hx114_0⟩ := Kd.at_int HR1.out x31_2 p114 q114
          cases e114
          replace hx114_0 := (HB.out.cell (World.block_lt_of_cell? w _ hx114_0)).trans hx114_0
          replace p114 := eq_true p114
          replace q114 := eq_true q114
          have hcz36_0 : wr.cell? ⟨gb109, 0, none⟩ = some (.int .i64 x110000_2) := sC BK109 0 rfl
          have hcz36_1 : wr.cell? ⟨gb109, 1, none⟩ = some (u110001) := sC BK109 1 rfl
          have hcz36_2 : wr.cell? ⟨gb109, 2, none⟩ = some (u110002) := sC BK109 2 rfl
          have hfz36_0 := blk_frozen BK109.out 0
          have hfz36_1 := blk_frozen BK109.out 1
          have hfz36_2 := blk_frozen BK109.out 2
          go_wp2_with (first | ((with_reducible refine gate_dst (N := 41) rfl ?_); refine Kd.R_lit k59 _ 59 ?hg (N := 41) ?hd (xs := ([(⟨rd l1 x31_2, wrap64 ((rd l1 x31_2) + 1)⟩ : S59)] : List (S59))) (inner := [.int .i64 (rd l1 x31_2), .int .i64 (wrap64 ((rd l1 x31_2) + 1))]) (ok := fun _ => True) (okp := fun _ => True) ?hr ?hp (fun _ hk => hk) trivial (Below.refl _ _) (Nat.le_refl _) (by simp) ?_; (case hd => rfl); (case hg => rfl); (case hr => first | (go_simp; done) | (go_simp; rfl)); (case hp => exact (Reps.c2 (show Kd.M k59 _ _ _ (⟨rd l1 x31_2, wrap64 ((rd l1 x31_2) + 1)⟩ : S59) [.int .i64 (rd l1 x31_2), .int .i64 (wrap64 ((rd l1 x31_2) + 1))] from (k59_mkM _ _ _ (⟨rd l1 x31_2, wrap64 ((rd l1 x31_2) + 1)⟩ : S59) )) (Reps.none _ _))); intro v116 w37 ho38 hb hg_ hnew_; clear hg_ hnew_; (first | rw [← Ny115.out] at ho38 | (simp only [Int.reduceToNat] at ho38; rw [← Ny115.out] at ho38)); have n0_ := sA (Kd.R_below (sR HO_8.out) hb); have n1_ := sA (Kd.R_elder' (sR HO_110001.out) (Kd.R_base ho38) hb); have n2_ := sA (Kd.R_below (sR HO_110002.out) hb); have n3_ := sA (Kd.R_lower (Kd.R_new' ho38 (Kd.R_lt (sR HO_110001.out))) (below_size (by repeat (first | (with_reducible first | exact HB.out | apply sLA | apply sLN | apply sLD | refine sLS ?_ GE109.out) | exact HB.out)))); have n4_ := sA (blk_below (sB BK109.out) hb); have n5_ := sA (below_step (by repeat (first | (with_reducible first | exact HB.out | apply sLA | apply sLN | apply sLD | refine sLS ?_ GE109.out) | exact HB.out)) hb); clear HO_8; clear HO_110001; clear HO_110002; clear BK109; clear HB; have HO_8 := n0_; have HO_110001 := n1_; have HO_110002 := n2_; have HO117 := n3_; have BK109 := n4_; have HB := n5_; clear n0_ n1_ n2_ n3_ n4_ n5_; clear hb ho38; obtain ⟨Ao39, co39, eo39⟩ := Kd.R_slice HO_110001.out; subst eo39; obtain ⟨Ao40, co40, eo40⟩ := Kd.R_slice HO_110002.out; subst eo40; obtain ⟨Ao41, co41, eo41⟩ := Kd.R_slice HO117.out; subst eo41) | ((with_reducible refine gate_callee (f := 23) rfl ?_); refine goesL_ (some 42) rfl rfl Try.func23 (by kernel_rfl) rfl #[.agg #[.int .i64 x110000_2, .slice Ao39 x110001_2.length co39, .slice Ao40 x110002_2.length co40], .slice Ao41 y115.length co41] rfl (by (try simp only [List.map_toArray, List.map_cons, List.map_nil]); first | done | rfl | (simp only [List.length_drop, List.length_take]; rfl)) ?_; (with_reducible refine (impl_HearSpans.calls k2 x110000_2 _ _ x110001_2 _ _ x110002_2 _ _ y115 t118 t119 t122 t125 t128 false _ ?side1 ?side2 ?side3 ?side4 ?side5 ?side6 A18.out).mono ?_); (case side1 => repeat (first | exact (Kd.R_reads' HO_110001.out).2.2 | (with_reducible refine Kd.C_alloc ?_ _) | (with_reducible refine Kd.C_drewN ?_ _) | (with_reducible refine Kd.C_drew ?_))); (case side2 => exact (Kd.R_reads' HO_110001.out).2.1); (case side3 => repeat (first | exact (Kd.R_reads' HO_110002.out).2.2 | (with_reducible refine Kd.C_alloc ?_ _) | (with_reducible refine Kd.C_drewN ?_ _) | (with_reducible refine Kd.C_drew ?_))); (case side4 => exact (Kd.R_reads' HO_110002.out).2.1); (case side5 => repeat (first | exact (Kd.R_reads' HO117.out).2.2 | (with_reducible refine Kd.C_alloc ?_ _) | (with_reducible refine Kd.C_drewN ?_ _) | (with_reducible refine Kd.C_drew ?_))); (case side6 => exact (Kd.R_reads' HO117.out).2.1); rintro e w42 ⟨v120, v123, v126, v129, rfl, ho0, ho1, ho2, ho3, hb⟩; refine ⟨_, rfl, ?_⟩; have n0_ := sA (Kd.R_mono (Kd.R_told (Kd.R_told (Kd.R_told (Kd.R_old (sR HO_8.out) hb) (Kd.R_base ho1)) (Kd.R_base ho2)) (Kd.R_base ho3)) (fun _ h_ => h_.1)); have n1_ := sA (Kd.R_elder' (sR HO_110001.out) (Kd.R_base ho0) hb); have n2_ := sA (Kd.R_mono (Kd.R_told (Kd.R_told (Kd.R_told (Kd.R_old (sR HO_110002.out) hb) (Kd.R_base ho1)) (Kd.R_base ho2)) (Kd.R_base ho3)) (fun _ h_ => h_.1)); have n3_ := sA (Kd.R_elder' (sR HO117.out) (Kd.R_base ho0) hb); have n4_ := sA (Kd.R_lower (Kd.R_new' (Kd.R_new' ho0 (Kd.R_lt (sR HO_110001.out))) (Kd.R_lt (sR HO117.out))) (below_size (by repeat (first | (with_reducible first | exact HB.out | apply sLA | apply sLN | apply sLD | refine sLS ?_ GE109.out) | exact HB.out)))); have n5_ := sA (Kd.R_lower (Kd.R_new' (Kd.R_new' ho1 (Kd.R_lt (sR HO_8.out))) (Kd.R_lt (sR HO_110002.out))) (below_size (by repeat (first | (with_reducible first | exact HB.out | apply sLA | apply sLN | apply sLD | refine sLS ?_ GE109.out) | exact HB.out)))); have n6_ := sA (Kd.R_lower (Kd.R_new' (Kd.R_new' ho2 (Kd.R_lt (sR HO_8.out))) (Kd.R_lt (sR HO_110002.out))) (below_size (by repeat (first | (with_reducible first | exact HB.out | apply sLA | apply sLN | apply sLD | refine sLS ?_ GE109.out) | exact HB.out)))); have n7_ := sA (Kd.R_lower (Kd.R_new' (Kd.R_new' ho3 (Kd.R_lt (sR HO_8.out))) (Kd.R_lt (sR HO_110002.out))) (below_size (by repeat (first | (with_reducible first | exact HB.out | apply sLA | apply sLN | apply sLD | refine sLS ?_ GE109.out) | exact HB.out)))); have n8_ := sA (blk_below (sB BK109.out) hb); have n9_ := sA (below_step (by repeat (first | (with_reducible first | exact HB.out | apply sLA | apply sLN | apply sLD | refine sLS ?_ GE109.out) | exact HB.out)) hb); clear HO_8; clear HO_110001; clear HO_110002; clear HO117; clear BK109; clear HB; have HO_8 := n0_; have HO_110001 := n1_; have HO_110002 := n2_; have HO117 := n3_; have HO121 := n4_; have HO124 := n5_; have HO127 := n6_; have HO130 := n7_; have BK109 := n8_; have HB := n9_; clear n0_ n1_ n2_ n3_ n4_ n5_ n6_ n7_ n8_ n9_; (try clear hb); (try clear hb2); (try clear hk); (try clear hi); (try clear ho0); (try clear ho1); (try clear ho2); (try clear ho3)) | ((with_reducible refine gate_dst (N := 11) rfl ?_); refine box_event ?hg (N := 11) ?hd (cs := #[.int .i64 0, .slice none 0 0, .slice none 0 0]) (t := 31) ?hr ?_; (case hd => rfl); (case hg => rfl); (case hr => first | (go_simp; done) | (go_simp; rfl)); intro gb132 hg w43 hbox hb; have n0_ := sA (Kd.R_below (sR HO_8.out) hb); have n1_ := sA (Kd.R_below (sR HO_110001.out) hb); have n2_ := sA (Kd.R_below (sR HO_110002.out) hb); have n3_ := sA (Kd.R_below (sR HO117.out) hb); have n4_ := sA (Kd.R_below (sR HO121.out) hb); have n5_ := sA (Kd.R_below (sR HO124.out) hb); have n6_ := sA (Kd.R_below (sR HO127.out) hb); have n7_ := sA (Kd.R_below (sR HO130.out) hb); have n8_ := sA (blk_below (sB BK109.out) hb); have n9_ := sA (below_step (by repeat (first | (with_reducible first | exact HB.out | apply sLA | apply sLN | apply sLD | refine sLS ?_ GE109.out) | exact HB.out)) hb); have n10_ := sA (hbox); have n11_ := sA ((by rw [hg]; exact (below_size (by repeat (first | (with_reducible first | exact HB.out | apply sLA | apply sLN | apply sLD | refine sLS ?_ GE109.out) | exact HB.out))) : w.heap.size ≤ gb132)); have n12_ := sA ((by rw [hg]; exact (below_size (by repeat (first | (with_reducible first | exact HB.out | apply sLA | apply sLN | apply sLD | refine sLS ?_ GE109.out) | exact HB.out))) : w.heap.size ≤ gb132)); have n13_ := sA ((by rw [hg]; exact Nat.ne_of_lt (blk_lt (sB BK109.out)) : gb109 ≠ gb132)); have n14_ := sA ((by rw [hg]; exact Nat.ne_of_gt (blk_lt (sB BK109.out)) : gb132 ≠ gb109)); clear HO_8; clear HO_110001; clear HO_110002; clear HO117; clear HO121; clear HO124; clear HO127; clear HO130; clear BK109; clear HB; have HO_8 := n0_; have HO_110001 := n1_; have HO_110002 := n2_; have HO117 := n3_; have HO121 := n4_; have HO124 := n5_; have HO127 := n6_; have HO130 := n7_; have BK109 := n8_; have HB := n9_; have BK132 := n10_; have GW132 := n11_; have GE132 := n12_; have NB109_132 := n13_; have NB132_109 := n14_; clear n0_ n1_ n2_ n3_ n4_ n5_ n6_ n7_ n8_ n9_ n10_ n11_ n12_ n13_ n14_; clear hb hbox hg; have hnb44 := NB132_109.out; have hnc44 := NB109_132.out; have hcz45_0 : w43.cell? ⟨gb132, 0, none⟩ = some (.int .i64 0) := sC BK132 0 rfl; have hcz45_1 : w43.cell? ⟨gb132, 1, none⟩ = some (.slice none 0 0) := sC BK132 1 rfl; have hcz45_2 : w43.cell? ⟨gb132, 2, none⟩ = some (.slice none 0 0) := sC BK132 2 rfl; have hfz45_0 := blk_frozen BK132.out 0; have hfz45_1 := blk_frozen BK132.out 1; have hfz45_2 := blk_frozen BK132.out 2; obtain ⟨Ao46, co46, eo46⟩ := Kd.R_slice HO121.out; subst eo46; obtain ⟨Ao47, co47, eo47⟩ := Kd.R_slice HO124.out; subst eo47))
          go_ret2
          exact ⟨_, by first | rfl | (simp [errW_none, errW_some] <;> rfl) | (simp [*, errW_none, errW_some] <;> rfl), by first | exact Kd.R_nil _ _ _ _ _ | exact Kd.N_nil _ _ _ _ _ | exact Kd.V_nil _ _ _ _ _ | exact Kd.Q_nil _ _ _ _ _ | exact Kd.S_nil _ _ _ _ _, by repeat (first | (with_reducible first | exact HB.out | apply sLA | apply sLN | apply sLD | refine sLS ?_ GE109.out | refine sLS ?_ GE132.out) | exact HB.out)⟩
        ·rw [if_neg c17] at H
         exact absurd H (by simp)
       ·rw [if_neg c16] at H
        exact absurd H (by simp)
      ·rw [if_neg c15] at H
       have c15b0 : decide (x31_2 < (l1.length : Int)) = false := decide_eq_false c15
       clear c15
       replace H := Option.bind_eq_some_iff.mp H
       obtain ⟨t136, A480, H⟩ := H
       replace H : ((slices_Compact_int_int.f t136).bind fun t137 => (some (t137, true))) = some (r1, r2) := H
       have A48 := sA A480
       clear A480
       replace H := Option.bind_eq_some_iff.mp H
       obtain ⟨t137, A490, H⟩ := H
       replace H : (some (t137, true)) = some (r1, r2) := H
       have A49 := sA A490
       clear A490
       simp only [Option.some.injEq, Prod.mk.injEq] at H
       obtain ⟨rfl, rfl⟩ := H
       obtain ⟨Ao50, co50, eo50⟩ := Kd.R_slice HO_8.out
       subst eo50
       go_wp2_with (first | ((with_reducible refine gate_callee (f := 48) rfl ?_); refine goesL_ (some 55) rfl rfl Try.func48 (by kernel_rfl) rfl #[.slice Ao50 x8_2.length co50] rfl (by (try simp only [List.map_toArray, List.map_cons, List.map_nil]); first | done | rfl | (simp only [List.length_drop, List.length_take]; rfl)) ?_; (with_reducible refine (slices_Sort_int_int.calls (fun k_ => some k_ = (.slice Ao50 x8_2.length co50 : Value).ownBlock) (.slice Ao50 x8_2.length co50) x8_2 t136 w _ ?side1 ?side2 A48.out).mono ?_); (case side1 => repeat (first | (with_reducible first | exact HB.out | apply sLA | apply sLN | apply sLD | refine sLS ?_ GE109.out) | exact HB.out)); (case side2 => exact Kd.R_tight rfl HO_8.out); rintro e w51 ⟨rfl, hy0, hb, hkp⟩; refine ⟨_, rfl, ?_⟩; have n0_ := sA (Kd.R_reok rfl hy0 (fun k_ e_ => HO_8.out.1 k_ e_)); have n1_ := sA (Kd.R_mono (ok' := fun k_ => True) (Kd.R_keptB ((Kd.R_apart' HO_110001.out (Kd.R_typed HO_8.out) (by decide))) hkp (fun k_ hk_ hs_ => (hk_.2) hs_)) (fun k_ hk_ => trivial)); have n2_ := sA (Kd.R_mono (ok' := fun k_ => some k_ ≠ (.slice Ao50 x8_2.length co50 : Value).ownBlock) (Kd.R_keptB (HO_110002.out) hkp (fun k_ hk_ hs_ => (hk_) hs_)) (fun k_ hk_ => hk_.1)); have n3_ := sA (blk_kept (sB BK109.out) hkp (fun hs_ => (fun e_ => (Kd.R_ne HO_8.out BK109.out (by decide)) e_) hs_)); have n4_ := sA (hb); clear HO_8; clear HO_110001; clear HO_110002; clear BK109; clear HB; have HO_8 := n0_; have HO_110001 := n1_; have HO_110002 := n2_; have BK109 := n3_; have HB := n4_; clear n0_ n1_ n2_ n3_ n4_; (try clear hb); (try clear hkp); (try clear hy0)) | ((with_reducible refine gate_callee (f := 54) rfl ?_); refine goesL_ (some 57) rfl rfl Try.func54 (by kernel_rfl) rfl #[.slice Ao50 x8_2.length co50] rfl (by (try simp only [List.map_toArray, List.map_cons, List.map_nil]); first | done | rfl | (simp only [List.length_drop, List.length_take]; rfl)) ?_; (with_reducible refine (slices_Compact_int_int.calls (fun k_ => some k_ = (.slice Ao50 x8_2.length co50 : Value).ownBlock) (.slice Ao50 x8_2.length co50) t136 t137 w _ ?side1 ?side2 A49.out).mono ?_); (case side1 => repeat (first | (with_reducible first | exact HB.out | apply sLA | apply sLN | apply sLD | refine sLS ?_ GE109.out) | exact HB.out)); (case side2 => exact Kd.R_tight rfl HO_8.out); rintro e w52 ⟨v138, rfl, ho0, hb, hkp⟩; refine ⟨_, rfl, ?_⟩; have n0_ := sA (Kd.R_mono (ok' := fun k_ => True) (Kd.R_keptB ((Kd.R_apart' HO_110001.out (Kd.R_typed HO_8.out) (by decide))) hkp (fun k_ hk_ hs_ => (hk_.2) hs_)) (fun k_ hk_ => trivial)); have n1_ := sA (Kd.R_mono (ok' := fun k_ => some k_ ≠ (v138 : Value).ownBlock) (Kd.R_keptB (HO_110002.out) hkp (fun k_ hk_ hs_ => (hk_) hs_)) (fun k_ hk_ => fun e_ => Or.elim (ho0.1 k_ e_.symm) (fun hs_ => hk_.2.1 hs_) (fun hn_ => Nat.not_le.2 hk_.2.2 hn_))); have n2_ := sA (blk_kept (sB BK109.out) hkp (fun hs_ => (fun e_ => (Kd.R_ne HO_8.out BK109.out (by decide)) e_) hs_)); have n3_ := sA (Kd.R_mono (ok' := fun k_ => some k_ ≠ (u110002 : Value).ownBlock) ho0 (fun k_ hk_ => Or.elim hk_ (fun hs_ => fun e_ => (((HO_110002.out).1 k_ e_.symm)) hs_) (fun hn_ => (Kd.fresh' (Kd.R_lt (sR HO_110002.out)) k_ hn_)))); have n4_ := sA (hb); clear HO_110001; clear HO_110002; clear BK109; clear HB; clear HO_8; have HO_110001 := n0_; have HO_110002 := n1_; have BK109 := n2_; have HO139 := n3_; have HB := n4_; clear n0_ n1_ n2_ n3_ n4_; (try clear hb); (try clear hkp); (try clear ho0)))
       go_ret2
       exact ⟨_, by first | rfl | (simp [errW_none, errW_some] <;> rfl) | (simp [*, errW_none, errW_some] <;> rfl), by (with_reducible repeat (first | apply Kd.R_alloc | apply Kd.R_drewN | apply Kd.R_drew)); exact Kd.R_mono HO139.out (fun _ hk => trivial), by repeat (first | (with_reducible first | exact HB.out | apply sLA | apply sLN | apply sLD | refine sLS ?_ GE109.out) | exact HB.out)⟩

end Go.Proofs.Ytligcknlmbgbiaa.P

namespace Go.Proofs.Ytligcknlmbgbiaa.P
open Go.RowKit Go.Proofs.YtligcknlmbgbiaaW.PrintWords Go.Proofs.YtligcknlmbgbiaaW.PrintLast Go.Proofs.YtligcknlmbgbiaaW.PrintMore
attribute [local go_sem] max2_int min2_int max_two min_two max_three min_three max_four min_four
set_option linter.unusedVariables false
set_option linter.unusedSimpArgs false

/-! ### laws_FnExactPlayHeard: function 6 -/
mutual
def laws_FnExactPlayHeard.j0 : Nat → Int → List Int → List Int → Bool → List Int → List Int → Bool → Bool → Option (Bool)
  | 0, _, _, _, _, _, _, _, _ => none
  | k + 1, x0, x1, x5, x6, x7, x8, x9, x41 => if x41 = true then (some false) else ((laws_toIntS.f k x1).bind fun t116 => ((laws_eqIntS.f k x7 t116).bind fun t119 => (if t119 = true then ((laws_markIntS.f k x7 1).bind fun bt120 => (if bt120.1 < 0 then (laws_FnExactPlayHeard.j1 k x0 x1 x5 x6 x8 true) else ((laws_eqIntS.f k x8 x5).bind fun t122 => (if t122 = true then (laws_FnExactPlayHeard.j1 k x0 x1 x5 x6 x8 (x9 != x6)) else (laws_FnExactPlayHeard.j1 k x0 x1 x5 x6 x8 true))))) else (some false))))
def laws_FnExactPlayHeard.j1 : Nat → Int → List Int → List Int → Bool → List Int → Bool → Option (Bool)
  | 0, _, _, _, _, _, _ => none
  | k + 1, x0, x1, x5, x6, x8, x62 => if x62 = true then (some false) else ((laws_markIntS.f k x8 1).bind fun bt123 => ((laws_heldIntS.f k bt123.2 1).bind fun t125 => (if t125 < 0 then (some false) else (if t125 = bt123.1 then ((laws_toIntS.f k x1).bind fun t126 => ((impl_PlayHeard.f k x0 t126).bind fun bt129 => ((laws_eqIntS.f k bt129.1 x5).bind fun t133 => (if t133 = true then (laws_FnExactPlayHeard.j2 k bt123.2 bt123.1 (bt129.2 != x6)) else (laws_FnExactPlayHeard.j2 k bt123.2 bt123.1 true))))) else (some false)))))
def laws_FnExactPlayHeard.j2 : Nat → List Int → Int → Bool → Option (Bool)
  | 0, _, _, _ => none
  | k + 1, x8, x11, x89 => if x89 = true then (some false) else ((laws_heldIntS.f k x8 1).bind fun t134 => (if t134 < 0 then (some false) else (if t134 = x11 then (some true) else (some false))))
end
def laws_FnExactPlayHeard.f (k : Nat) (a0 : Int) (l1 : List Int) : Option (Bool) := if (l1.length : Int) > 1048576 then (some true) else ((laws_toIntS.f k l1).bind fun t101 => ((spec_PlayHeard.f k a0 t101).bind fun bt104 => ((laws_toIntS.f k l1).bind fun t108 => ((impl_PlayHeard.f k a0 t108).bind fun bt111 => ((laws_eqIntS.f k bt111.1 bt104.1).bind fun t115 => (if t115 = true then (laws_FnExactPlayHeard.j0 k a0 l1 bt104.1 bt104.2 t108 bt111.1 bt111.2 (bt111.2 != bt104.2)) else (laws_FnExactPlayHeard.j0 k a0 l1 bt104.1 bt104.2 t108 bt111.1 bt111.2 true)))))))
theorem laws_FnExactPlayHeard.j0_true {k : Nat} {y0_ : Int} {y1_ : List Int} {y2_ : List Int} {y3_ : Bool} {y4_ : List Int} {y5_ : List Int} {y6_ : Bool} {r : Bool} (hr : r = true) (h : laws_FnExactPlayHeard.j0 k y0_ y1_ y2_ y3_ y4_ y5_ y6_ true = some r) : False := by
  cases k with
  | zero => rw [laws_FnExactPlayHeard.j0] at h; cases h
  | succ k =>
    rw [laws_FnExactPlayHeard.j0, if_pos rfl] at h
    have e := Option.some.inj h
    rw [hr] at e
    cases e
theorem laws_FnExactPlayHeard.j1_true {k : Nat} {y0_ : Int} {y1_ : List Int} {y2_ : List Int} {y3_ : Bool} {y4_ : List Int} {r : Bool} (hr : r = true) (h : laws_FnExactPlayHeard.j1 k y0_ y1_ y2_ y3_ y4_ true = some r) : False := by
  cases k with
  | zero => rw [laws_FnExactPlayHeard.j1] at h; cases h
  | succ k =>
    rw [laws_FnExactPlayHeard.j1, if_pos rfl] at h
    have e := Option.some.inj h
    rw [hr] at e
    cases e
theorem laws_FnExactPlayHeard.j2_true {k : Nat} {y0_ : List Int} {y1_ : Int} {r : Bool} (hr : r = true) (h : laws_FnExactPlayHeard.j2 k y0_ y1_ true = some r) : False := by
  cases k with
  | zero => rw [laws_FnExactPlayHeard.j2] at h; cases h
  | succ k =>
    rw [laws_FnExactPlayHeard.j2, if_pos rfl] at h
    have e := Option.some.inj h
    rw [hr] at e
    cases e
set_option maxHeartbeats 8000000 in
set_option maxRecDepth 100000 in
theorem laws_FnExactPlayHeard.calls (k : Nat) (a0 : Int) (A1 : Option Addr) (c1 : Nat) (l1 : List Int) (r : Bool) (w : World) (hr1 : Kd.C (Kd.int .i64) w A1 l1.length l1) (hc1 : l1.length ≤ c1) (h : laws_FnExactPlayHeard.f k a0 l1 = some r) (hr_ : r = true := by rfl) :
  Calls Try.prog 6 #[.int .i64 a0, .slice A1 l1.length c1] w fun e w' => e = .returned (.bool r) ∧ Below w.heap.size w w' := by
 have HR1 := sA hr1
 have HC1 := sA hc1
 clear hr1 hc1
 have HB := sA (Below.refl w.heap.size w)
 have H : (if (l1.length : Int) > 1048576 then (some true) else ((laws_toIntS.f k l1).bind fun t101 => ((spec_PlayHeard.f k a0 t101).bind fun bt104 => ((laws_toIntS.f k l1).bind fun t108 => ((impl_PlayHeard.f k a0 t108).bind fun bt111 => ((laws_eqIntS.f k bt111.1 bt104.1).bind fun t115 => (if t115 = true then (laws_FnExactPlayHeard.j0 k a0 l1 bt104.1 bt104.2 t108 bt111.1 bt111.2 (bt111.2 != bt104.2)) else (laws_FnExactPlayHeard.j0 k a0 l1 bt104.1 bt104.2 t108 bt111.1 bt111.2 true)))))))) = some r := h
 clear h
 by_cases c3 : (l1.length : Int) > 1048576
 ·rw [if_pos c3] at H
  have c3b0 : decide (1048576 < (l1.length : Int)) = true := decide_eq_true c3
  have c3b1 : decide (1048576 < l1.length) = true := decide_eq_true (by omega)
  clear c3
  obtain rfl := Option.some.inj H
  go_enter Try.func6, Try.ntmps6
  go_wp2
  go_ret
  exact ⟨by first | rfl | (simp [errW_none, errW_some] <;> rfl) | (simp [*, errW_none, errW_some] <;> rfl), by repeat (first | (with_reducible first | exact HB.out | apply sLA | apply sLN | apply sLD) | exact HB.out)⟩
 ·rw [if_neg c3] at H
  have c3b0 : decide (1048576 < (l1.length : Int)) = false := decide_eq_false c3
  have c3b1 : decide (1048576 < l1.length) = false := decide_eq_false (by omega)
  clear c3
  replace H := Option.bind_eq_some_iff.mp H
  obtain ⟨t101, A40, H⟩ := H
  replace H : ((spec_PlayHeard.f k a0 t101).bind fun bt104 => ((laws_toIntS.f k l1).bind fun t108 => ((impl_PlayHeard.f k a0 t108).bind fun bt111 => ((laws_eqIntS.f k bt111.1 bt104.1).bind fun t115 => (if t115 = true then (laws_FnExactPlayHeard.j0 k a0 l1 bt104.1 bt104.2 t108 bt111.1 bt111.2 (bt111.2 != bt104.2)) else (laws_FnExactPlayHeard.j0 k a0 l1 bt104.1 bt104.2 t108 bt111.1 bt111.2 true)))))) = some r := H
  have A4 := sA A40
  clear A40
  replace H := Option.bind_eq_some_iff.mp H
  obtain ⟨⟨t104, t105⟩, A50, H⟩ := H
  replace H : ((laws_toIntS.f k l1).bind fun t108 => ((impl_PlayHeard.f k a0 t108).bind fun bt111 => ((laws_eqIntS.f k bt111.1 t104).bind fun t115 => (if t115 = true then (laws_FnExactPlayHeard.j0 k a0 l1 t104 t105 t108 bt111.1 bt111.2 (bt111.2 != t105)) else (laws_FnExactPlayHeard.j0 k a0 l1 t104 t105 t108 bt111.1 bt111.2 true))))) = some r := H
  have A5 := sA A50
  clear A50
  replace H := Option.bind_eq_some_iff.mp H
  obtain ⟨t108, A60, H⟩ := H
  replace H : ((impl_PlayHeard.f k a0 t108).bind fun bt111 => ((laws_eqIntS.f k bt111.1 t104).bind fun t115 => (if t115 = true then (laws_FnExactPlayHeard.j0 k a0 l1 t104 t105 t108 bt111.1 bt111.2 (bt111.2 != t105)) else (laws_FnExactPlayHeard.j0 k a0 l1 t104 t105 t108 bt111.1 bt111.2 true)))) = some r := H
  have A6 := sA A60
  clear A60
  replace H := Option.bind_eq_some_iff.mp H
  obtain ⟨⟨t111, t112⟩, A70, H⟩ := H
  replace H : ((laws_eqIntS.f k t111 t104).bind fun t115 => (if t115 = true then (laws_FnExactPlayHeard.j0 k a0 l1 t104 t105 t108 t111 t112 (t112 != t105)) else (laws_FnExactPlayHeard.j0 k a0 l1 t104 t105 t108 t111 t112 true))) = some r := H
  have A7 := sA A70
  clear A70
  have HC8 := sA H
  clear H
  go_enter Try.func6, Try.ntmps6
  go_upto_region 6 with (first | ((with_reducible refine gate_callee (f := 27) rfl ?_); refine goesL_ (some 21) rfl rfl Try.func27 (by kernel_rfl) rfl #[.slice A1 l1.length c1] rfl (by (try simp only [List.map_toArray, List.map_cons, List.map_nil]); first | done | rfl | (simp only [List.length_drop, List.length_take]; rfl)) ?_; (with_reducible refine (laws_toIntS.calls k _ _ l1 t101 _ ?side1 ?side2 A4.out).mono ?_); (case side1 => repeat (first | exact HR1.out | (with_reducible refine Kd.C_alloc ?_ _) | (with_reducible refine Kd.C_drewN ?_ _) | (with_reducible refine Kd.C_drew ?_))); (case side2 => exact HC1.out); rintro e w9 ⟨v102, rfl, ho0, hb⟩; refine ⟨_, rfl, ?_⟩; have n0_ := sA (Kd.R_lower ho0 (below_size (by repeat (first | (with_reducible first | exact HB.out | apply sLA | apply sLN | apply sLD) | exact HB.out)))); have n1_ := sA (below_step (by repeat (first | (with_reducible first | exact HB.out | apply sLA | apply sLN | apply sLD) | exact HB.out)) hb); clear HB; have HO103 := n0_; have HB := n1_; clear n0_ n1_; (try clear hb); (try clear hb2); (try clear hk); (try clear hi); (try clear ho0); obtain ⟨Ao10, co10, eo10⟩ := Kd.R_slice HO103.out; subst eo10) | ((with_reducible refine gate_callee (f := 26) rfl ?_); refine goesL_ (some 22) rfl rfl Try.func26 (by kernel_rfl) rfl #[.int .i64 a0, .slice Ao10 t101.length co10] rfl (by (try simp only [List.map_toArray, List.map_cons, List.map_nil]); first | done | rfl | (simp only [List.length_drop, List.length_take]; rfl)) ?_; (with_reducible refine (spec_PlayHeard.calls k a0 _ _ t101 t104 t105 _ ?side1 ?side2 A5.out).mono ?_); (case side1 => repeat (first | exact (Kd.R_reads' HO103.out).2.2 | (with_reducible refine Kd.C_alloc ?_ _) | (with_reducible refine Kd.C_drewN ?_ _) | (with_reducible refine Kd.C_drew ?_))); (case side2 => exact (Kd.R_reads' HO103.out).2.1); rintro e w11 ⟨v106, rfl, ho0, hb⟩; refine ⟨_, rfl, ?_⟩; have n0_ := sA (Kd.R_elder' (sR HO103.out) (Kd.R_base ho0) hb); have n1_ := sA (Kd.R_lower (Kd.R_new' ho0 (Kd.R_lt (sR HO103.out))) (below_size (by repeat (first | (with_reducible first | exact HB.out | apply sLA | apply sLN | apply sLD) | exact HB.out)))); have n2_ := sA (below_step (by repeat (first | (with_reducible first | exact HB.out | apply sLA | apply sLN | apply sLD) | exact HB.out)) hb); clear HO103; clear HB; have HO103 := n0_; have HO107 := n1_; have HB := n2_; clear n0_ n1_ n2_; (try clear hb); (try clear hb2); (try clear hk); (try clear hi); (try clear ho0)) | ((with_reducible refine gate_callee (f := 27) rfl ?_); refine goesL_ (some 26) rfl rfl Try.func27 (by kernel_rfl) rfl #[.slice A1 l1.length c1] rfl (by (try simp only [List.map_toArray, List.map_cons, List.map_nil]); first | done | rfl | (simp only [List.length_drop, List.length_take]; rfl)) ?_; (with_reducible refine (laws_toIntS.calls k _ _ l1 t108 _ ?side1 ?side2 A6.out).mono ?_); (case side1 => repeat (first | exact (Kd.C_below HR1.out HB.out) | (with_reducible refine Kd.C_alloc ?_ _) | (with_reducible refine Kd.C_drewN ?_ _) | (with_reducible refine Kd.C_drew ?_))); (case side2 => exact HC1.out); rintro e w12 ⟨v109, rfl, ho0, hb⟩; refine ⟨_, rfl, ?_⟩; have n0_ := sA (Kd.R_elder' (sR HO103.out) (Kd.R_base ho0) hb); have n1_ := sA (Kd.R_elder' (sR HO107.out) (Kd.R_base ho0) hb); have n2_ := sA (Kd.R_lower (Kd.R_new' (Kd.R_new' ho0 (Kd.R_lt (sR HO103.out))) (Kd.R_lt (sR HO107.out))) (below_size (by repeat (first | (with_reducible first | exact HB.out | apply sLA | apply sLN | apply sLD) | exact HB.out)))); have n3_ := sA (below_step (by repeat (first | (with_reducible first | exact HB.out | apply sLA | apply sLN | apply sLD) | exact HB.out)) hb); clear HO103; clear HO107; clear HB; have HO103 := n0_; have HO107 := n1_; have HO110 := n2_; have HB := n3_; clear n0_ n1_ n2_ n3_; (try clear hb); (try clear hb2); (try clear hk); (try clear hi); (try clear ho0); obtain ⟨Ao13, co13, eo13⟩ := Kd.R_slice HO110.out; subst eo13) | ((with_reducible refine gate_callee (f := 28) rfl ?_); refine goesL_ (some 30) rfl rfl Try.func28 (by kernel_rfl) rfl #[.int .i64 a0, .slice Ao13 t108.length co13] rfl (by (try simp only [List.map_toArray, List.map_cons, List.map_nil]); first | done | rfl | (simp only [List.length_drop, List.length_take]; rfl)) ?_; (with_reducible refine (impl_PlayHeard.calls k a0 _ _ t108 t111 t112 _ ?side1 ?side2 A7.out).mono ?_); (case side1 => repeat (first | exact (Kd.R_reads' HO110.out).2.2 | (with_reducible refine Kd.C_alloc ?_ _) | (with_reducible refine Kd.C_drewN ?_ _) | (with_reducible refine Kd.C_drew ?_))); (case side2 => exact (Kd.R_reads' HO110.out).2.1); rintro e w14 ⟨v113, rfl, ho0, hb⟩; refine ⟨_, rfl, ?_⟩; have n0_ := sA (Kd.R_elder' (sR HO103.out) (Kd.R_base ho0) hb); have n1_ := sA (Kd.R_elder' (sR HO107.out) (Kd.R_base ho0) hb); have n2_ := sA (Kd.R_elder' (sR HO110.out) (Kd.R_base ho0) hb); have n3_ := sA (Kd.R_lower (Kd.R_new' (Kd.R_new' (Kd.R_new' ho0 (Kd.R_lt (sR HO103.out))) (Kd.R_lt (sR HO107.out))) (Kd.R_lt (sR HO110.out))) (below_size (by repeat (first | (with_reducible first | exact HB.out | apply sLA | apply sLN | apply sLD) | exact HB.out)))); have n4_ := sA (below_step (by repeat (first | (with_reducible first | exact HB.out | apply sLA | apply sLN | apply sLD) | exact HB.out)) hb); clear HO103; clear HO107; clear HO110; clear HB; have HO103 := n0_; have HO107 := n1_; have HO110 := n2_; have HO114 := n3_; have HB := n4_; clear n0_ n1_ n2_ n3_ n4_; (try clear hb); (try clear hb2); (try clear hk); (try clear hi); (try clear ho0)))
  (try simp only [Act.put, sI, sZ, sV])
  go_cut [41] (fun v41 wc => ∃ (kq : Nat) (x41_7 : Bool), v41 = .bool x41_7 ∧ Aside0 (laws_FnExactPlayHeard.j0 kq a0 l1 t104 t105 t108 t111 t112 x41_7 = some r) ∧ Aside0 (kq ≤ k) ∧ Aside0 (Kd.R (Kd.int .i64) 3 wc w.heap.size (fun k_ => some k_ ≠ ((.slice Ao13 t108.length co13) : Value).ownBlock ∧ some k_ ≠ (v113 : Value).ownBlock) v106 t104) ∧ Aside0 (Kd.R (Kd.int .i64) 3 wc w.heap.size (fun k_ => some k_ ≠ (v106 : Value).ownBlock ∧ some k_ ≠ (v113 : Value).ownBlock) (.slice Ao13 t108.length co13) t108) ∧ Aside0 (Kd.R (Kd.int .i64) 3 wc w.heap.size (fun k_ => some k_ ≠ (v106 : Value).ownBlock ∧ some k_ ≠ ((.slice Ao13 t108.length co13) : Value).ownBlock) v113 t111) ∧ Aside0 (Below w.heap.size w wc))
  case first =>
   have H := HC8.out
   clear HC8
   replace H := Option.bind_eq_some_iff.mp H
   obtain ⟨t115, A150, H⟩ := H
   replace H : (if t115 = true then (laws_FnExactPlayHeard.j0 k a0 l1 t104 t105 t108 t111 t112 (t112 != t105)) else (laws_FnExactPlayHeard.j0 k a0 l1 t104 t105 t108 t111 t112 true)) = some r := H
   have A15 := sA A150
   clear A150
   by_cases c16 : t115 = true
   ·subst c16
    have H1 : (laws_FnExactPlayHeard.j0 k a0 l1 t104 t105 t108 t111 t112 (t112 != t105)) = some r := by rw [if_pos rfl] at H; exact H
    clear H
    have H := H1
    clear H1
    have H' := sA H
    clear H
    obtain ⟨Ao17, co17, eo17⟩ := Kd.R_slice HO114.out
    subst eo17
    obtain ⟨Ao18, co18, eo18⟩ := Kd.R_slice HO107.out
    subst eo18
    go_wp2_with (first | ((with_reducible refine gate_callee (f := 12) rfl ?_); refine goesL_ (some 35) rfl rfl Try.func12 (by kernel_rfl) rfl #[.slice Ao17 t111.length co17, .slice Ao18 t104.length co18] rfl (by (try simp only [List.map_toArray, List.map_cons, List.map_nil]); first | done | rfl | (simp only [List.length_drop, List.length_take]; rfl)) ?_; (with_reducible refine (laws_eqIntS.calls k _ _ t111 _ _ t104 true _ ?side1 ?side2 ?side3 ?side4 A15.out).mono ?_); (case side1 => repeat (first | exact (Kd.R_reads' HO114.out).2.2 | (with_reducible refine Kd.C_alloc ?_ _) | (with_reducible refine Kd.C_drewN ?_ _) | (with_reducible refine Kd.C_drew ?_))); (case side2 => exact (Kd.R_reads' HO114.out).2.1); (case side3 => repeat (first | exact (Kd.R_reads' HO107.out).2.2 | (with_reducible refine Kd.C_alloc ?_ _) | (with_reducible refine Kd.C_drewN ?_ _) | (with_reducible refine Kd.C_drew ?_))); (case side4 => exact (Kd.R_reads' HO107.out).2.1); rintro e w' ⟨rfl, ⟨nd, rfl⟩⟩; refine ⟨_, rfl, ?_⟩))
    go_meet
    case rel => exact ⟨_, ((t112 != t105)), (by first | rfl | (simp; done) | (simp [*]; done)), H', ⟨by first | omega | exact Nat.le_refl _⟩, ⟨sR (Kd.R_mono HO107.out (fun _ hk => ⟨hk.1.2, hk.2⟩))⟩, ⟨sR (Kd.R_mono HO110.out (fun _ hk => ⟨hk.1.2, hk.2⟩))⟩, ⟨sR (Kd.R_mono HO114.out (fun _ hk => ⟨hk.1.2, hk.2⟩))⟩, ⟨by repeat (first | (with_reducible first | exact HB.out | apply sLA | apply sLN | apply sLD) | exact HB.out)⟩⟩
   ·replace c16 := Bool.eq_false_iff.mpr c16
    subst c16
    have H1 : (laws_FnExactPlayHeard.j0 k a0 l1 t104 t105 t108 t111 t112 true) = some r := by rw [if_neg (show ¬ (false = true) by decide)] at H; exact H
    clear H
    have H := H1
    clear H1
    exact False.elim (by first | exact laws_FnExactPlayHeard.j0_true hr_ H | exact laws_FnExactPlayHeard.j1_true hr_ H | exact laws_FnExactPlayHeard.j2_true hr_ H)
  case rest =>
   clear HC8
   try clear c1
   try clear c2
   try clear p2
   try clear c3
   try clear c3b0
   try clear c3b1
   try clear c6
   try clear c12
   try clear c16
   obtain ⟨kq, x41_7, rfl, HA, HJ7, HO_5, HO_7, HO_8, HB⟩ := hcut
   cases kq with
   | zero => exact absurd HA.out (by simp [laws_FnExactPlayHeard.j0])
   | succ kj7 =>
    have H := HA.out
    clear HA
    simp only [laws_FnExactPlayHeard.j0] at H
    by_cases c21 : x41_7 = true
    ·subst c21
     have H1 : (some false) = some r := by rw [if_pos rfl] at H; exact H
     clear H
     have H := H1
     clear H1
     exact absurd (hr_.symm.trans (Option.some.inj H).symm) (by decide)
    ·replace c21 := Bool.eq_false_iff.mpr c21
     subst c21
     have H1 : ((laws_toIntS.f kj7 l1).bind fun t116 => ((laws_eqIntS.f kj7 t108 t116).bind fun t119 => (if t119 = true then ((laws_markIntS.f kj7 t108 1).bind fun bt120 => (if bt120.1 < 0 then (laws_FnExactPlayHeard.j1 kj7 a0 l1 t104 t105 t111 true) else ((laws_eqIntS.f kj7 t111 t104).bind fun t122 => (if t122 = true then (laws_FnExactPlayHeard.j1 kj7 a0 l1 t104 t105 t111 (t112 != t105)) else (laws_FnExactPlayHeard.j1 kj7 a0 l1 t104 t105 t111 true))))) else (some false)))) = some r := by rw [if_neg (show ¬ (false = true) by decide)] at H; exact H
     clear H
     have H := H1
     clear H1
     replace H := Option.bind_eq_some_iff.mp H
     obtain ⟨t116, A220, H⟩ := H
     replace H : ((laws_eqIntS.f kj7 t108 t116).bind fun t119 => (if t119 = true then ((laws_markIntS.f kj7 t108 1).bind fun bt120 => (if bt120.1 < 0 then (laws_FnExactPlayHeard.j1 kj7 a0 l1 t104 t105 t111 true) else ((laws_eqIntS.f kj7 t111 t104).bind fun t122 => (if t122 = true then (laws_FnExactPlayHeard.j1 kj7 a0 l1 t104 t105 t111 (t112 != t105)) else (laws_FnExactPlayHeard.j1 kj7 a0 l1 t104 t105 t111 true))))) else (some false))) = some r := H
     have A22 := sA A220
     clear A220
     replace H := Option.bind_eq_some_iff.mp H
     obtain ⟨t119, A230, H⟩ := H
     replace H : (if t119 = true then ((laws_markIntS.f kj7 t108 1).bind fun bt120 => (if bt120.1 < 0 then (laws_FnExactPlayHeard.j1 kj7 a0 l1 t104 t105 t111 true) else ((laws_eqIntS.f kj7 t111 t104).bind fun t122 => (if t122 = true then (laws_FnExactPlayHeard.j1 kj7 a0 l1 t104 t105 t111 (t112 != t105)) else (laws_FnExactPlayHeard.j1 kj7 a0 l1 t104 t105 t111 true))))) else (some false)) = some r := H
     have A23 := sA A230
     clear A230
     by_cases c24 : t119 = true
     ·subst c24
      have H1 : ((laws_markIntS.f kj7 t108 1).bind fun bt120 => (if bt120.1 < 0 then (laws_FnExactPlayHeard.j1 kj7 a0 l1 t104 t105 t111 true) else ((laws_eqIntS.f kj7 t111 t104).bind fun t122 => (if t122 = true then (laws_FnExactPlayHeard.j1 kj7 a0 l1 t104 t105 t111 (t112 != t105)) else (laws_FnExactPlayHeard.j1 kj7 a0 l1 t104 t105 t111 true))))) = some r := by rw [if_pos rfl] at H; exact H
      clear H
      have H := H1
      clear H1
      replace H := Option.bind_eq_some_iff.mp H
      obtain ⟨⟨t120, t121⟩, A250, H⟩ := H
      replace H : (if t120 < 0 then (laws_FnExactPlayHeard.j1 kj7 a0 l1 t104 t105 t111 true) else ((laws_eqIntS.f kj7 t111 t104).bind fun t122 => (if t122 = true then (laws_FnExactPlayHeard.j1 kj7 a0 l1 t104 t105 t111 (t112 != t105)) else (laws_FnExactPlayHeard.j1 kj7 a0 l1 t104 t105 t111 true)))) = some r := H
      have A25 := sA A250
      clear A250
      have HC26 := sA H
      clear H
      go_upto_region 12 with (first | ((with_reducible refine gate_callee (f := 27) rfl ?_); refine goesL_ (some 44) rfl rfl Try.func27 (by kernel_rfl) rfl #[.slice A1 l1.length c1] rfl (by (try simp only [List.map_toArray, List.map_cons, List.map_nil]); first | done | rfl | (simp only [List.length_drop, List.length_take]; rfl)) ?_; (with_reducible refine (laws_toIntS.calls kj7 _ _ l1 t116 _ ?side1 ?side2 A22.out).mono ?_); (case side1 => repeat (first | exact (Kd.C_below HR1.out HB.out) | (with_reducible refine Kd.C_alloc ?_ _) | (with_reducible refine Kd.C_drewN ?_ _) | (with_reducible refine Kd.C_drew ?_))); (case side2 => exact HC1.out); rintro e w27 ⟨v117, rfl, ho0, hb⟩; refine ⟨_, rfl, ?_⟩; have n0_ := sA (Kd.R_elder' (sR HO_5.out) (Kd.R_base ho0) hb); have n1_ := sA (Kd.R_elder' (sR HO_7.out) (Kd.R_base ho0) hb); have n2_ := sA (Kd.R_elder' (sR HO_8.out) (Kd.R_base ho0) hb); have n3_ := sA (Kd.R_lower (Kd.R_new' (Kd.R_new' (Kd.R_new' ho0 (Kd.R_lt (sR HO_5.out))) (Kd.R_lt (sR HO_7.out))) (Kd.R_lt (sR HO_8.out))) (below_size (by repeat (first | (with_reducible first | exact HB.out | apply sLA | apply sLN | apply sLD) | exact HB.out)))); have n4_ := sA (below_step (by repeat (first | (with_reducible first | exact HB.out | apply sLA | apply sLN | apply sLD) | exact HB.out)) hb); clear HO_5; clear HO_7; clear HO_8; clear HB; have HO_5 := n0_; have HO_7 := n1_; have HO_8 := n2_; have HO118 := n3_; have HB := n4_; clear n0_ n1_ n2_ n3_ n4_; (try clear hb); (try clear hb2); (try clear hk); (try clear hi); (try clear ho0); obtain ⟨Ao28, co28, eo28⟩ := Kd.R_slice HO118.out; subst eo28) | ((with_reducible refine gate_callee (f := 12) rfl ?_); refine goesL_ (some 45) rfl rfl Try.func12 (by kernel_rfl) rfl #[.slice Ao13 t108.length co13, .slice Ao28 t116.length co28] rfl (by (try simp only [List.map_toArray, List.map_cons, List.map_nil]); first | done | rfl | (simp only [List.length_drop, List.length_take]; rfl)) ?_; (with_reducible refine (laws_eqIntS.calls kj7 _ _ t108 _ _ t116 true _ ?side1 ?side2 ?side3 ?side4 A23.out).mono ?_); (case side1 => repeat (first | exact (Kd.R_reads' HO_7.out).2.2 | (with_reducible refine Kd.C_alloc ?_ _) | (with_reducible refine Kd.C_drewN ?_ _) | (with_reducible refine Kd.C_drew ?_))); (case side2 => exact (Kd.R_reads' HO_7.out).2.1); (case side3 => repeat (first | exact (Kd.R_reads' HO118.out).2.2 | (with_reducible refine Kd.C_alloc ?_ _) | (with_reducible refine Kd.C_drewN ?_ _) | (with_reducible refine Kd.C_drew ?_))); (case side4 => exact (Kd.R_reads' HO118.out).2.1); rintro e w' ⟨rfl, ⟨nd, rfl⟩⟩; refine ⟨_, rfl, ?_⟩) | ((with_reducible refine gate_callee (f := 15) rfl ?_); refine goesL_ (some 49) rfl rfl Try.func15 (by kernel_rfl) rfl #[.slice Ao13 t108.length co13, .int .i64 1] rfl (by (try simp only [List.map_toArray, List.map_cons, List.map_nil]); first | done | rfl | (simp only [List.length_drop, List.length_take]; rfl)) ?_; (with_reducible refine (laws_markIntS.calls kj7 (fun k_ => some k_ = (.slice Ao13 t108.length co13 : Value).ownBlock) (.slice Ao13 t108.length co13) t108 1 t120 t121 w _ ?side1 ?side2 A25.out).mono ?_); (case side1 => repeat (first | (with_reducible first | exact HB.out | apply sLA | apply sLN | apply sLD) | exact HB.out)); (case side2 => exact Kd.R_tight rfl HO_7.out); rintro e w29 ⟨rfl, hy0, hb, hkp⟩; refine ⟨_, rfl, ?_⟩; have n0_ := sA (Kd.R_mono (ok' := fun k_ => some k_ ≠ (.slice Ao13 t108.length co13 : Value).ownBlock ∧ some k_ ≠ (v113 : Value).ownBlock ∧ some k_ ≠ (.slice Ao28 t116.length co28 : Value).ownBlock) (Kd.R_keptB (HO_5.out) hkp (fun k_ hk_ hs_ => (hk_.1.1) hs_)) (fun k_ hk_ => ⟨hk_.1.1.1, hk_.1.1.2, hk_.1.2⟩)); have n1_ := sA (Kd.R_reok rfl hy0 (fun k_ e_ => HO_7.out.1 k_ e_)); have n2_ := sA (Kd.R_mono (ok' := fun k_ => some k_ ≠ (v106 : Value).ownBlock ∧ some k_ ≠ (.slice Ao13 t108.length co13 : Value).ownBlock ∧ some k_ ≠ (.slice Ao28 t116.length co28 : Value).ownBlock) (Kd.R_keptB (HO_8.out) hkp (fun k_ hk_ hs_ => (hk_.1.2) hs_)) (fun k_ hk_ => ⟨hk_.1.1.1, hk_.1.1.2, hk_.1.2⟩)); have n3_ := sA (Kd.R_mono (ok' := fun k_ => some k_ ≠ (v106 : Value).ownBlock ∧ some k_ ≠ (.slice Ao13 t108.length co13 : Value).ownBlock ∧ some k_ ≠ (v113 : Value).ownBlock) (Kd.R_keptB (HO118.out) hkp (fun k_ hk_ hs_ => (hk_.1.2) hs_)) (fun k_ hk_ => ⟨hk_.1.1.1.2, hk_.1.1.2, hk_.1.2⟩)); have n4_ := sA (hb); clear HO_5; clear HO_7; clear HO_8; clear HO118; clear HB; have HO_5 := n0_; have HO_7 := n1_; have HO_8 := n2_; have HO118 := n3_; have HB := n4_; clear n0_ n1_ n2_ n3_ n4_; (try clear hb); (try clear hkp); (try clear hy0)))
      (try simp only [Act.put, sI, sZ, sV])
      go_cut [62] (fun v62 wc => ∃ (kq : Nat) (x62_25 : Bool), v62 = .bool x62_25 ∧ Aside0 (laws_FnExactPlayHeard.j1 kq a0 l1 t104 t105 t111 x62_25 = some r) ∧ Aside0 (kq ≤ kj7) ∧ Aside0 (Kd.R (Kd.int .i64) 3 wc w.heap.size (fun k_ => some k_ ≠ (v113 : Value).ownBlock) v106 t104) ∧ Aside0 (Kd.R (Kd.int .i64) 3 wc w.heap.size (fun k_ => some k_ ≠ (v106 : Value).ownBlock) v113 t111) ∧ Aside0 (Below w.heap.size w wc))
      case first =>
       have H := HC26.out
       clear HC26
       by_cases c30 : t120 < 0
       ·rw [if_pos c30] at H
        have c30b0 : decide (t120 < 0) = true := decide_eq_true c30
        clear c30
        (first | rw [c30b0] | (simp only [i64_w, i32_w]; rw [c30b0]) | skip)
        exact False.elim (by first | exact laws_FnExactPlayHeard.j0_true hr_ H | exact laws_FnExactPlayHeard.j1_true hr_ H | exact laws_FnExactPlayHeard.j2_true hr_ H)
       ·rw [if_neg c30] at H
        have c30b0 : decide (t120 < 0) = false := decide_eq_false c30
        clear c30
        (first | rw [c30b0] | (simp only [i64_w, i32_w]; rw [c30b0]) | skip)
        replace H := Option.bind_eq_some_iff.mp H
        obtain ⟨t122, A310, H⟩ := H
        replace H : (if t122 = true then (laws_FnExactPlayHeard.j1 kj7 a0 l1 t104 t105 t111 (t112 != t105)) else (laws_FnExactPlayHeard.j1 kj7 a0 l1 t104 t105 t111 true)) = some r := H
        have A31 := sA A310
        clear A310
        by_cases c32 : t122 = true
        ·subst c32
         have H1 : (laws_FnExactPlayHeard.j1 kj7 a0 l1 t104 t105 t111 (t112 != t105)) = some r := by rw [if_pos rfl] at H; exact H
         clear H
         have H := H1
         clear H1
         have H' := sA H
         clear H
         obtain ⟨Ao33, co33, eo33⟩ := Kd.R_slice HO_8.out
         subst eo33
         obtain ⟨Ao34, co34, eo34⟩ := Kd.R_slice HO_5.out
         subst eo34
         go_wp2_with (first | (go_at_call 12; (with_reducible refine (laws_eqIntS.calls kj7 _ _ t111 _ _ t104 true _ ?side1 ?side2 ?side3 ?side4 A31.out).mono ?_); (case side1 => repeat (first | exact (Kd.R_reads' HO_8.out).2.2 | (with_reducible refine Kd.C_alloc ?_ _) | (with_reducible refine Kd.C_drewN ?_ _) | (with_reducible refine Kd.C_drew ?_))); (case side2 => exact (Kd.R_reads' HO_8.out).2.1); (case side3 => repeat (first | exact (Kd.R_reads' HO_5.out).2.2 | (with_reducible refine Kd.C_alloc ?_ _) | (with_reducible refine Kd.C_drewN ?_ _) | (with_reducible refine Kd.C_drew ?_))); (case side4 => exact (Kd.R_reads' HO_5.out).2.1); rintro e w' ⟨rfl, ⟨nd, rfl⟩⟩))
         go_meet
         case rel => exact ⟨_, ((t112 != t105)), (by first | rfl | (simp; done) | (simp [*]; done)), H', ⟨by have := HJ7.out; first | omega | exact Nat.le_refl _⟩, ⟨sR (Kd.R_mono HO_5.out (fun _ hk => hk.2.1))⟩, ⟨sR (Kd.R_mono HO_8.out (fun _ hk => hk.1))⟩, ⟨by repeat (first | (with_reducible first | exact HB.out | apply sLA | apply sLN | apply sLD) | exact HB.out)⟩⟩
        ·replace c32 := Bool.eq_false_iff.mpr c32
         subst c32
         have H1 : (laws_FnExactPlayHeard.j1 kj7 a0 l1 t104 t105 t111 true) = some r := by rw [if_neg (show ¬ (false = true) by decide)] at H; exact H
         clear H
         have H := H1
         clear H1
         exact False.elim (by first | exact laws_FnExactPlayHeard.j0_true hr_ H | exact laws_FnExactPlayHeard.j1_true hr_ H | exact laws_FnExactPlayHeard.j2_true hr_ H)
      case rest =>
       clear HC26
       try clear c1
       try clear c2
       try clear p2
       try clear c3
       try clear c3b0
       try clear c3b1
       try clear c6
       try clear c12
       try clear c15
       try clear c16
       try clear c21
       try clear c24
       try clear c26
       try clear c27
       try clear c28
       try clear c30
       try clear c30b0
       try clear c32
       try clear p2
       obtain ⟨kq, x62_25, rfl, HA, HJ25, HO_5, HO_8, HB⟩ := hcut
       cases kq with
       | zero => exact absurd HA.out (by simp [laws_FnExactPlayHeard.j1])
       | succ kj25 =>
        have H := HA.out
        clear HA
        simp only [laws_FnExactPlayHeard.j1] at H
        by_cases c37 : x62_25 = true
        ·subst c37
         have H1 : (some false) = some r := by rw [if_pos rfl] at H; exact H
         clear H
         have H := H1
         clear H1
         exact absurd (hr_.symm.trans (Option.some.inj H).symm) (by decide)
        ·replace c37 := Bool.eq_false_iff.mpr c37
         subst c37
         have H1 : ((laws_markIntS.f kj25 t111 1).bind fun bt123 => ((laws_heldIntS.f kj25 bt123.2 1).bind fun t125 => (if t125 < 0 then (some false) else (if t125 = bt123.1 then ((laws_toIntS.f kj25 l1).bind fun t126 => ((impl_PlayHeard.f kj25 a0 t126).bind fun bt129 => ((laws_eqIntS.f kj25 bt129.1 t104).bind fun t133 => (if t133 = true then (laws_FnExactPlayHeard.j2 kj25 bt123.2 bt123.1 (bt129.2 != t105)) else (laws_FnExactPlayHeard.j2 kj25 bt123.2 bt123.1 true))))) else (some false))))) = some r := by rw [if_neg (show ¬ (false = true) by decide)] at H; exact H
         clear H
         have H := H1
         clear H1
         replace H := Option.bind_eq_some_iff.mp H
         obtain ⟨⟨t123, t124⟩, A380, H⟩ := H
         replace H : ((laws_heldIntS.f kj25 t124 1).bind fun t125 => (if t125 < 0 then (some false) else (if t125 = t123 then ((laws_toIntS.f kj25 l1).bind fun t126 => ((impl_PlayHeard.f kj25 a0 t126).bind fun bt129 => ((laws_eqIntS.f kj25 bt129.1 t104).bind fun t133 => (if t133 = true then (laws_FnExactPlayHeard.j2 kj25 t124 t123 (bt129.2 != t105)) else (laws_FnExactPlayHeard.j2 kj25 t124 t123 true))))) else (some false)))) = some r := H
         have A38 := sA A380
         clear A380
         replace H := Option.bind_eq_some_iff.mp H
         obtain ⟨t125, A390, H⟩ := H
         replace H : (if t125 < 0 then (some false) else (if t125 = t123 then ((laws_toIntS.f kj25 l1).bind fun t126 => ((impl_PlayHeard.f kj25 a0 t126).bind fun bt129 => ((laws_eqIntS.f kj25 bt129.1 t104).bind fun t133 => (if t133 = true then (laws_FnExactPlayHeard.j2 kj25 t124 t123 (bt129.2 != t105)) else (laws_FnExactPlayHeard.j2 kj25 t124 t123 true))))) else (some false))) = some r := H
         have A39 := sA A390
         clear A390
         by_cases c40 : t125 < 0
         ·rw [if_pos c40] at H
          have c40b0 : decide (t125 < 0) = true := decide_eq_true c40
          clear c40
          exact absurd (hr_.symm.trans (Option.some.inj H).symm) (by decide)
         ·rw [if_neg c40] at H
          have c40b0 : decide (t125 < 0) = false := decide_eq_false c40
          clear c40
          by_cases c43 : t125 = t123
          ·rw [if_pos c43] at H
           have c43b0 : (t125 == t123) = true := beq_iff_eq.mpr c43
           have c43b1 : (t125 != t123) = false := bne_eq_false_iff_eq.mpr c43
           clear c43
           replace H := Option.bind_eq_some_iff.mp H
           obtain ⟨t126, A440, H⟩ := H
           replace H : ((impl_PlayHeard.f kj25 a0 t126).bind fun bt129 => ((laws_eqIntS.f kj25 bt129.1 t104).bind fun t133 => (if t133 = true then (laws_FnExactPlayHeard.j2 kj25 t124 t123 (bt129.2 != t105)) else (laws_FnExactPlayHeard.j2 kj25 t124 t123 true)))) = some r := H
           have A44 := sA A440
           clear A440
           replace H := Option.bind_eq_some_iff.mp H
           obtain ⟨⟨t129, t130⟩, A450, H⟩ := H
           replace H : ((laws_eqIntS.f kj25 t129 t104).bind fun t133 => (if t133 = true then (laws_FnExactPlayHeard.j2 kj25 t124 t123 (t130 != t105)) else (laws_FnExactPlayHeard.j2 kj25 t124 t123 true))) = some r := H
           have A45 := sA A450
           clear A450
           have HC46 := sA H
           clear H
           obtain ⟨Ao47, co47, eo47⟩ := Kd.R_slice HO_8.out
           subst eo47
           go_upto_region 23 with (first | ((with_reducible refine gate_callee (f := 15) rfl ?_); refine goesL_ (some 65) rfl rfl Try.func15 (by kernel_rfl) rfl #[.slice Ao47 t111.length co47, .int .i64 1] rfl (by (try simp only [List.map_toArray, List.map_cons, List.map_nil]); first | done | rfl | (simp only [List.length_drop, List.length_take]; rfl)) ?_; (with_reducible refine (laws_markIntS.calls kj25 (fun k_ => some k_ = (.slice Ao47 t111.length co47 : Value).ownBlock) (.slice Ao47 t111.length co47) t111 1 t123 t124 w _ ?side1 ?side2 A38.out).mono ?_); (case side1 => repeat (first | (with_reducible first | exact HB.out | apply sLA | apply sLN | apply sLD) | exact HB.out)); (case side2 => exact Kd.R_tight rfl HO_8.out); rintro e w48 ⟨rfl, hy0, hb, hkp⟩; refine ⟨_, rfl, ?_⟩; have n0_ := sA (Kd.R_mono (ok' := fun k_ => some k_ ≠ (.slice Ao47 t111.length co47 : Value).ownBlock) (Kd.R_keptB (HO_5.out) hkp (fun k_ hk_ hs_ => (hk_) hs_)) (fun k_ hk_ => hk_.1)); have n1_ := sA (Kd.R_reok rfl hy0 (fun k_ e_ => HO_8.out.1 k_ e_)); have n2_ := sA (hb); clear HO_5; clear HO_8; clear HB; have HO_5 := n0_; have HO_8 := n1_; have HB := n2_; clear n0_ n1_ n2_; (try clear hb); (try clear hkp); (try clear hy0)) | ((with_reducible refine gate_callee (f := 16) rfl ?_); refine goesL_ (some 68) rfl rfl Try.func16 (by kernel_rfl) rfl #[.slice Ao47 t124.length co47, .int .i64 1] rfl (by (try simp only [List.map_toArray, List.map_cons, List.map_nil]); first | done | (rw [show t124.length = t111.length from (Kd.R_reads' HO_8.out).1.symm] <;> rfl) | rfl | (simp only [List.length_drop, List.length_take]; rfl)) ?_; (with_reducible refine (laws_heldIntS.calls kj25 _ _ t124 1 t125 _ ?side1 ?side2 A39.out).mono ?_); (case side1 => repeat (first | exact (Kd.R_reads' HO_8.out).2.2 | (with_reducible refine Kd.C_alloc ?_ _) | (with_reducible refine Kd.C_drewN ?_ _) | (with_reducible refine Kd.C_drew ?_))); (case side2 => rw [show t124.length = t111.length from (Kd.R_reads' HO_8.out).1.symm]; exact (Kd.R_reads' HO_8.out).2.1); rintro e w' ⟨rfl, ⟨nd, rfl⟩⟩; refine ⟨_, rfl, ?_⟩) | ((with_reducible refine gate_callee (f := 27) rfl ?_); refine goesL_ (some 77) rfl rfl Try.func27 (by kernel_rfl) rfl #[.slice A1 l1.length c1] rfl (by (try simp only [List.map_toArray, List.map_cons, List.map_nil]); first | done | rfl | (simp only [List.length_drop, List.length_take]; rfl)) ?_; (with_reducible refine (laws_toIntS.calls kj25 _ _ l1 t126 _ ?side1 ?side2 A44.out).mono ?_); (case side1 => repeat (first | exact (Kd.C_below HR1.out (by repeat (first | (with_reducible first | exact HB.out | apply sLA | apply sLN | apply sLD) | exact HB.out))) | (with_reducible refine Kd.C_alloc ?_ _) | (with_reducible refine Kd.C_drewN ?_ _) | (with_reducible refine Kd.C_drew ?_))); (case side2 => exact HC1.out); rintro e w49 ⟨v127, rfl, ho0, hb⟩; refine ⟨_, rfl, ?_⟩; have n0_ := sA (Kd.R_elder' (sR HO_5.out) (Kd.R_base ho0) hb); have n1_ := sA (Kd.R_elder' (sR HO_8.out) (Kd.R_base ho0) hb); have n2_ := sA (Kd.R_lower (Kd.R_new' (Kd.R_new' ho0 (Kd.R_lt (sR HO_5.out))) (Kd.R_lt (sR HO_8.out))) (below_size (by repeat (first | (with_reducible first | exact HB.out | apply sLA | apply sLN | apply sLD) | exact HB.out)))); have n3_ := sA (below_step (by repeat (first | (with_reducible first | exact HB.out | apply sLA | apply sLN | apply sLD) | exact HB.out)) hb); clear HO_5; clear HO_8; clear HB; have HO_5 := n0_; have HO_8 := n1_; have HO128 := n2_; have HB := n3_; clear n0_ n1_ n2_ n3_; (try clear hb); (try clear hb2); (try clear hk); (try clear hi); (try clear ho0); obtain ⟨Ao50, co50, eo50⟩ := Kd.R_slice HO128.out; subst eo50) | ((with_reducible refine gate_callee (f := 28) rfl ?_); refine goesL_ (some 78) rfl rfl Try.func28 (by kernel_rfl) rfl #[.int .i64 a0, .slice Ao50 t126.length co50] rfl (by (try simp only [List.map_toArray, List.map_cons, List.map_nil]); first | done | rfl | (simp only [List.length_drop, List.length_take]; rfl)) ?_; (with_reducible refine (impl_PlayHeard.calls kj25 a0 _ _ t126 t129 t130 _ ?side1 ?side2 A45.out).mono ?_); (case side1 => repeat (first | exact (Kd.R_reads' HO128.out).2.2 | (with_reducible refine Kd.C_alloc ?_ _) | (with_reducible refine Kd.C_drewN ?_ _) | (with_reducible refine Kd.C_drew ?_))); (case side2 => exact (Kd.R_reads' HO128.out).2.1); rintro e w51 ⟨v131, rfl, ho0, hb⟩; refine ⟨_, rfl, ?_⟩; have n0_ := sA (Kd.R_elder' (sR HO_5.out) (Kd.R_base ho0) hb); have n1_ := sA (Kd.R_elder' (sR HO_8.out) (Kd.R_base ho0) hb); have n2_ := sA (Kd.R_elder' (sR HO128.out) (Kd.R_base ho0) hb); have n3_ := sA (Kd.R_lower (Kd.R_new' (Kd.R_new' (Kd.R_new' ho0 (Kd.R_lt (sR HO_5.out))) (Kd.R_lt (sR HO_8.out))) (Kd.R_lt (sR HO128.out))) (below_size (by repeat (first | (with_reducible first | exact HB.out | apply sLA | apply sLN | apply sLD) | exact HB.out)))); have n4_ := sA (below_step (by repeat (first | (with_reducible first | exact HB.out | apply sLA | apply sLN | apply sLD) | exact HB.out)) hb); clear HO_5; clear HO_8; clear HO128; clear HB; have HO_5 := n0_; have HO_8 := n1_; have HO128 := n2_; have HO132 := n3_; have HB := n4_; clear n0_ n1_ n2_ n3_ n4_; (try clear hb); (try clear hb2); (try clear hk); (try clear hi); (try clear ho0)))
           (try simp only [Act.put, sI, sZ, sV])
           go_cut [89] (fun v89 wc => ∃ (kq : Nat) (x89_45 : Bool), v89 = .bool x89_45 ∧ Aside0 (laws_FnExactPlayHeard.j2 kq t124 t123 x89_45 = some r) ∧ Aside0 (kq ≤ kj25) ∧ Aside0 (Kd.R (Kd.int .i64) 3 wc w.heap.size (fun _ => True) (.slice Ao47 t111.length co47) t124) ∧ Aside0 (Below w.heap.size w wc))
           case first =>
            have H := HC46.out
            clear HC46
            replace H := Option.bind_eq_some_iff.mp H
            obtain ⟨t133, A520, H⟩ := H
            replace H : (if t133 = true then (laws_FnExactPlayHeard.j2 kj25 t124 t123 (t130 != t105)) else (laws_FnExactPlayHeard.j2 kj25 t124 t123 true)) = some r := H
            have A52 := sA A520
            clear A520
            by_cases c53 : t133 = true
            ·subst c53
             have H1 : (laws_FnExactPlayHeard.j2 kj25 t124 t123 (t130 != t105)) = some r := by rw [if_pos rfl] at H; exact H
             clear H
             have H := H1
             clear H1
             have H' := sA H
             clear H
             obtain ⟨Ao54, co54, eo54⟩ := Kd.R_slice HO132.out
             subst eo54
             obtain ⟨Ao55, co55, eo55⟩ := Kd.R_slice HO_5.out
             subst eo55
             go_wp2_with (first | ((with_reducible refine gate_callee (f := 12) rfl ?_); refine goesL_ (some 83) rfl rfl Try.func12 (by kernel_rfl) rfl #[.slice Ao54 t129.length co54, .slice Ao55 t104.length co55] rfl (by (try simp only [List.map_toArray, List.map_cons, List.map_nil]); first | done | rfl | (simp only [List.length_drop, List.length_take]; rfl)) ?_; (with_reducible refine (laws_eqIntS.calls kj25 _ _ t129 _ _ t104 true _ ?side1 ?side2 ?side3 ?side4 A52.out).mono ?_); (case side1 => repeat (first | exact (Kd.R_reads' HO132.out).2.2 | (with_reducible refine Kd.C_alloc ?_ _) | (with_reducible refine Kd.C_drewN ?_ _) | (with_reducible refine Kd.C_drew ?_))); (case side2 => exact (Kd.R_reads' HO132.out).2.1); (case side3 => repeat (first | exact (Kd.R_reads' HO_5.out).2.2 | (with_reducible refine Kd.C_alloc ?_ _) | (with_reducible refine Kd.C_drewN ?_ _) | (with_reducible refine Kd.C_drew ?_))); (case side4 => exact (Kd.R_reads' HO_5.out).2.1); rintro e w' ⟨rfl, ⟨nd, rfl⟩⟩; refine ⟨_, rfl, ?_⟩))
             go_meet
             case rel => exact ⟨_, ((t130 != t105)), (by first | rfl | (simp; done) | (simp [*]; done)), H', ⟨by have := HJ7.out; have := HJ25.out; first | omega | exact Nat.le_refl _⟩, ⟨sR (Kd.R_mono HO_8.out (fun _ hk => trivial))⟩, ⟨by repeat (first | (with_reducible first | exact HB.out | apply sLA | apply sLN | apply sLD) | exact HB.out)⟩⟩
            ·replace c53 := Bool.eq_false_iff.mpr c53
             subst c53
             have H1 : (laws_FnExactPlayHeard.j2 kj25 t124 t123 true) = some r := by rw [if_neg (show ¬ (false = true) by decide)] at H; exact H
             clear H
             have H := H1
             clear H1
             exact False.elim (by first | exact laws_FnExactPlayHeard.j0_true hr_ H | exact laws_FnExactPlayHeard.j1_true hr_ H | exact laws_FnExactPlayHeard.j2_true hr_ H)
           case rest =>
            clear HC46
            try clear c1
            try clear c2
            try clear p2
            try clear c3
            try clear c3b0
            try clear c3b1
            try clear c4
            try clear c5
            try clear c6
            try clear c12
            try clear c15
            try clear c16
            try clear c21
            try clear c24
            try clear c26
            try clear c27
            try clear c28
            try clear c30
            try clear c30b0
            try clear c32
            try clear c37
            try clear c40
            try clear c40b0
            try clear c43
            try clear c43b0
            try clear c43b1
            try clear c53
            try clear p2
            obtain ⟨kq, x89_45, rfl, HA, HJ45, HO_8, HB⟩ := hcut
            have hl8_45 := (Kd.R_reads' HO_8.out).1
            rw [hl8_45] at HO_8
            (try simp only [hl8_45])
            cases kq with
            | zero => exact absurd HA.out (by simp [laws_FnExactPlayHeard.j2])
            | succ kj45 =>
             have H := HA.out
             clear HA
             simp only [laws_FnExactPlayHeard.j2] at H
             by_cases c58 : x89_45 = true
             ·subst c58
              have H1 : (some false) = some r := by rw [if_pos rfl] at H; exact H
              clear H
              have H := H1
              clear H1
              exact absurd (hr_.symm.trans (Option.some.inj H).symm) (by decide)
             ·replace c58 := Bool.eq_false_iff.mpr c58
              subst c58
              have H1 : ((laws_heldIntS.f kj45 t124 1).bind fun t134 => (if t134 < 0 then (some false) else (if t134 = t123 then (some true) else (some false)))) = some r := by rw [if_neg (show ¬ (false = true) by decide)] at H; exact H
              clear H
              have H := H1
              clear H1
              replace H := Option.bind_eq_some_iff.mp H
              obtain ⟨t134, A590, H⟩ := H
              replace H : (if t134 < 0 then (some false) else (if t134 = t123 then (some true) else (some false))) = some r := H
              have A59 := sA A590
              clear A590
              by_cases c60 : t134 < 0
              ·rw [if_pos c60] at H
               have c60b0 : decide (t134 < 0) = true := decide_eq_true c60
               clear c60
               exact absurd (hr_.symm.trans (Option.some.inj H).symm) (by decide)
              ·rw [if_neg c60] at H
               have c60b0 : decide (t134 < 0) = false := decide_eq_false c60
               clear c60
               by_cases c61 : t134 = t123
               ·rw [if_pos c61] at H
                have c61b0 : (t134 == t123) = true := beq_iff_eq.mpr c61
                have c61b1 : (t134 != t123) = false := bne_eq_false_iff_eq.mpr c61
                clear c61
                obtain rfl := Option.some.inj H
                go_wp2_with (first | ((with_reducible refine gate_callee (f := 16) rfl ?_); refine goesL_ (some 92) rfl rfl Try.func16 (by kernel_rfl) rfl #[.slice Ao47 t124.length co47, .int .i64 1] rfl (by (try simp only [List.map_toArray, List.map_cons, List.map_nil]); first | done | rfl | (simp only [List.length_drop, List.length_take]; rfl)) ?_; (with_reducible refine (laws_heldIntS.calls kj45 _ _ t124 1 t134 _ ?side1 ?side2 A59.out).mono ?_); (case side1 => repeat (first | exact (Kd.R_reads' HO_8.out).2.2 | (with_reducible refine Kd.C_alloc ?_ _) | (with_reducible refine Kd.C_drewN ?_ _) | (with_reducible refine Kd.C_drew ?_))); (case side2 => exact (Kd.R_reads' HO_8.out).2.1); rintro e w' ⟨rfl, ⟨nd, rfl⟩⟩; refine ⟨_, rfl, ?_⟩))
                go_ret
                exact ⟨by first | rfl | (simp [errW_none, errW_some] <;> rfl) | (simp [*, errW_none, errW_some] <;> rfl), by repeat (first | (with_reducible first | exact HB.out | apply sLA | apply sLN | apply sLD) | exact HB.out)⟩
               ·rw [if_neg c61] at H
                have c61b0 : (t134 == t123) = false := beq_eq_false_iff_ne.mpr c61
                have c61b1 : (t134 != t123) = true := bne_iff_ne.mpr c61
                exact absurd (hr_.symm.trans (Option.some.inj H).symm) (by decide)
          ·rw [if_neg c43] at H
           have c43b0 : (t125 == t123) = false := beq_eq_false_iff_ne.mpr c43
           have c43b1 : (t125 != t123) = true := bne_iff_ne.mpr c43
           exact absurd (hr_.symm.trans (Option.some.inj H).symm) (by decide)
     ·replace c24 := Bool.eq_false_iff.mpr c24
      subst c24
      have H1 : (some false) = some r := by rw [if_neg (show ¬ (false = true) by decide)] at H; exact H
      clear H
      have H := H1
      clear H1
      exact absurd (hr_.symm.trans (Option.some.inj H).symm) (by decide)

end Go.Proofs.Ytligcknlmbgbiaa.P

/- Reading of arguments by kind: what the row's reader can read is a value of the printed kind. -/
namespace Go.Proofs.Ytligcknlmbgbiaa.Opn
open Go.RowKit Go.Proofs.YtligcknlmbgbiaaW.PrintWords

structure Opens {α : Type} (P : Program) (t : TypeId) (d : Kd α) (wf : α → Prop) : Prop where
 out : ∀ {H : Type} (enc : TypeId × Value → H) (W : World) (fuel : Nat) (cs : List Value) (x : DataW H × List MemPlace),
  DataW.trod enc P W 0 (fun _ => true) true fuel t cs = some x → ∃ y, d.K W y cs ∧ wf y

def wfI (x : Int) : Prop := -9223372036854775808 ≤ x ∧ x ≤ 9223372036854775807
def wfL {α : Type} (wf : α → Prop) (l : List α) : Prop := l.length ≤ 9223372036854775807 ∧ ∀ x, x ∈ l → wf x

theorem wfI_of {x : Int} (hw : (Lit.int .i64 x).wf = true) : wfI x := by
 simp [Lit.wf] at hw
 exact ⟨by simpa [IntKind.min, IntKind.signed, IntKind.bits] using hw.1, by simpa [IntKind.max, IntKind.signed, IntKind.bits] using hw.2⟩
theorem opens_int {P : Program} {t : TypeId} (h : P.underlying t = some (.int .i64)) : Opens P t (Kd.int .i64) wfI := by
 refine ⟨?_⟩
 intro H enc W fuel cs x hx
 obtain ⟨n, rfl, _, hw⟩ := DataW.trod_int h hx
 exact ⟨n, rfl, wfI_of hw⟩
theorem add_add_ (ad : Addr) (m j : Nat) : (ad.add m).add j = ad.add (m + j) := by
 unfold Addr.add
 by_cases hm : m = 0
 ·subst hm; simp
 ·by_cases hj : j = 0
  ·subst hj; simp [hm]
  ·simp [hm, hj, Nat.add_assoc]

theorem opens_slice {P : Program} {t e : TypeId} {α : Type} {d : Kd α} {wf : α → Prop} (h : P.underlying t = some (.slice e)) (hsz : P.cellsOf e = d.sz) (ho : Opens P e d wf) : Opens P t (Kd.slice e d) (wfL wf) := by
 refine ⟨?_⟩
 intro H enc W fuel cs x hx
 rcases DataW.trod_slice h hx with ⟨rfl, _⟩ | ⟨a, len, cap, elems, rest, n, _, rfl, _, _, hl, hm, hlen, hel, _, _⟩
 ·exact ⟨[], ⟨none, 0, rfl, Nat.le_refl _, rfl, by simp, fun hp => absurd hp (by simp)⟩, by simp, fun x hx => by simp at hx⟩
 ·have hm' : len ≤ 9223372036854775807 := by simp only [maxLen] at hm; omega
  have each : ∀ i, i < len → ∃ y c, c.length = d.sz ∧ d.K W y c ∧ wf y ∧ ∀ j u, c[j]? = some u → W.cell? (a.add (i * d.sz + j)) = some u := by
   intro i hi
   have h1 := hel i hi
   rw [List.getElem?_eq_getElem (by omega)] at h1
   obtain ⟨c, hc, hd⟩ := Option.bind_eq_some_iff.1 h1
   obtain ⟨y, hy, hw⟩ := ho.out enc W n c _ hd
   obtain ⟨_, hcl, hcc⟩ := World.cells?_some hc
   refine ⟨y, c, by rw [hcl, hsz], hy, hw, fun j u hu => ?_⟩
   have hj : j < P.cellsOf e := by have := (List.getElem?_eq_some_iff.1 hu).1; omega
   have := hcc j hj
   rw [hu, add_add_, hsz] at this
   exact this
  have build : ∀ k, k ≤ len → ∃ ys : List α, ys.length = k ∧ (∀ y, y ∈ ys → wf y) ∧ ∀ j p, ys[j]? = some p → ∃ c, c.length = d.sz ∧ d.K W p c ∧ ∀ i u, c[i]? = some u → W.cell? (a.add (j * d.sz + i)) = some u := by
   intro k
   induction k with
   | zero => intro _; exact ⟨[], rfl, by simp, by simp⟩
   | succ k ih =>
    intro hk
    obtain ⟨ys, hlys, hw, hy⟩ := ih (by omega)
    obtain ⟨y, c, hcl, hK, hwy, hcell⟩ := each k (by omega)
    refine ⟨ys ++ [y], by simp [hlys], fun z hz => ?_, fun j p hp => ?_⟩
    ·rcases List.mem_append.1 hz with hz | hz
     ·exact hw z hz
     ·rw [List.mem_singleton.1 hz]; exact hwy
    ·rcases Nat.lt_or_ge j ys.length with hj | hj
     ·rw [List.getElem?_append_left hj] at hp
      exact hy j p hp
     ·have hj' : j = ys.length := by
       have := (List.getElem?_eq_some_iff.1 hp).1
       simp at this
       omega
      subst hj'
      have hp' : y = p := by simpa using hp
      subst hp'
      rw [hlys]
      exact ⟨c, hcl, hK, hcell⟩
  obtain ⟨ys, hlys, hw, hy⟩ := build len (Nat.le_refl _)
  subst hlys
  exact ⟨ys, ⟨some a, cap, rfl, hl, rfl, hm', fun _ => ⟨a, rfl, hy⟩⟩, hm', hw⟩

/-- the fields of a struct from an offset on -/
structure OpensF {α : Type} (P : Program) (fs : List Field) (off : Nat) (d : Kd α) (wf : α → Prop) : Prop where
 out : ∀ {H : Type} (enc : TypeId × Value → H) (W : World) (fuel : Nat) (cs : List Value), cs.length = off + d.sz →
  (∀ (i : Nat) (f : Field), fs[i]? = some f → ∃ y, DataW.trod enc P W 0 (fun _ => true) true fuel f.type ((cs.drop f.offset).take (P.cellsOf f.type)) = some y) →
  ∃ y, d.K W y (cs.drop off) ∧ wf y

end Go.Proofs.Ytligcknlmbgbiaa.Opn

namespace Go.Proofs.Ytligcknlmbgbiaa.P
open Go.RowKit Go.Proofs.YtligcknlmbgbiaaW.PrintWords Go.Proofs.YtligcknlmbgbiaaW.PrintLast Go.Proofs.YtligcknlmbgbiaaW.PrintMore Go.Proofs.Ytligcknlmbgbiaa.Opn
set_option linter.unusedVariables false

theorem opens3 : Opens Try.prog 3 (Kd.int .i64) wfI := opens_int Try.underlying3
theorem opens23 : Opens Try.prog 23 (Kd.slice 3 (Kd.int .i64)) (wfL wfI) := opens_slice Try.underlying23 (by kernel_rfl) opens3
end Go.Proofs.Ytligcknlmbgbiaa.P

namespace Go.Proofs.Ytligcknlmbgbiaa.P
open Go.RowKit Go.Proofs.YtligcknlmbgbiaaW.PrintWords Go.Proofs.YtligcknlmbgbiaaW.PrintLast Go.Proofs.YtligcknlmbgbiaaW.PrintMore Go.Proofs.Ytligcknlmbgbiaa.Opn
set_option linter.unusedVariables false

def laws_FnExactPlayHeard.Pure : Prop := ∀ (a0 : Int) (l1 : List Int), wfI a0 → (wfL wfI) l1 → ∃ k, laws_FnExactPlayHeard.f k a0 l1 = some true

end Go.Proofs.Ytligcknlmbgbiaa.P

namespace Go.Proofs.Ytligcknlmbgbiaa.Pure
open Go.RowKit Go.Proofs.Ytligcknlmbgbiaa.P Go.Proofs.YtligcknlmbgbiaaW.PrintWords Go.Proofs.YtligcknlmbgbiaaW.PrintLast Go.Proofs.Ytligcknlmbgbiaa.Opn
set_option linter.unusedVariables false
set_option linter.unusedSimpArgs false

theorem wrap_id {x : Int} (h0 : -9223372036854775808 ≤ x) (h1 : x ≤ 9223372036854775807) : wrap64 x = x := by
 unfold wrap64
 omega
theorem rd_nat (l : List Int) (i : Nat) (h : i < l.length) : rd l (i : Int) = l[i] := by
 simp [rd, List.getD_eq_getElem?_getD, List.getElem?_eq_getElem h]
theorem drop_rd (l : List Int) (i : Nat) (h : i < l.length) : l.drop i = rd l (i : Int) :: l.drop (i + 1) := by
 rw [List.drop_eq_getElem_cons h, rd_nat l i h]
theorem take_rd (l : List Int) (i : Nat) (h : i < l.length) : l.take (i + 1) = l.take i ++ [rd l (i : Int)] := by
 rw [List.take_succ_eq_append_getElem h, rd_nat l i h]
theorem take_set_succ {α : Type} (l : List α) (i : Nat) (h : i < l.length) (v : α) : (l.set i v).take (i + 1) = l.take i ++ [v] := by
 rw [List.take_succ_eq_append_getElem (by simpa using h)]
 rw [List.getElem_set_self, List.take_set_of_le (Nat.le_refl i)]
theorem round {k d : Nat} (h : d < k) : ∃ m, k = m + 1 := ⟨k - 1, by omega⟩
def marks (a : Int) : Nat → List Int
 | 0 => []
 | n + 1 => a :: marks (a + 1) n
theorem marks_length (a : Int) (n : Nat) : (marks a n).length = n := by
 induction n generalizing a with
 | zero => rfl
 | succ n ih => simp [marks, ih]
theorem marks_rd (n : Nat) : ∀ (a : Int) (i : Nat), i < n → rd (marks a n) (i : Int) = a + i := by
 induction n with
 | zero => intro a i h; omega
 | succ n ih =>
  intro a i h
  cases i with
  | zero => simp [marks, rd]
  | succ i =>
   have := ih (a + 1) i (by omega)
   simp only [marks, rd, Int.toNat_natCast, List.getD_cons_succ] at this ⊢
   rw [this]
   push_cast
   omega
theorem marks_snoc (n : Nat) : ∀ (a : Int), marks a (n + 1) = marks a n ++ [a + n] := by
 induction n with
 | zero => intro a; simp [marks]
 | succ n ih =>
  intro a
  rw [marks, ih (a + 1)]
  simp only [marks, List.cons_append, List.cons.injEq, true_and]
  congr 2
  push_cast
  omega

end Go.Proofs.Ytligcknlmbgbiaa.Pure

namespace Go.Proofs.Ytligcknlmbgbiaa.Pure
open Go.RowKit Go.Proofs.Ytligcknlmbgbiaa.P Go.Proofs.YtligcknlmbgbiaaW.PrintWords Go.Proofs.YtligcknlmbgbiaaW.PrintLast Go.Proofs.Ytligcknlmbgbiaa.Opn
set_option linter.unusedVariables false
set_option linter.unusedSimpArgs false

theorem spec_in (a b c : Int) : spec_l1In.f a b c = some (decide (b ≤ a ∧ a ≤ c)) := by
 unfold spec_l1In.f
 by_cases h : a ≥ b
 ·rw [if_pos h]
  by_cases h2 : a ≤ c
  ·simp [h, h2]
  ·simp [h2]
 ·rw [if_neg h]
  have : ¬ b ≤ a := by omega
  simp [this]
theorem impl_in_ (a b c : Int) : impl_in.f a b c = some (decide (b ≤ a ∧ a ≤ c)) := spec_in a b c

end Go.Proofs.Ytligcknlmbgbiaa.Pure

namespace Go.Proofs.Ytligcknlmbgbiaa.P
open Go.RowKit Go.Proofs.YtligcknlmbgbiaaW.PrintWords Go.Proofs.YtligcknlmbgbiaaW.PrintLast Go.Proofs.YtligcknlmbgbiaaW.PrintMore
attribute [local go_sem] max2_int min2_int max_two min_two max_three min_three max_four min_four
set_option linter.unusedVariables false
set_option linter.unusedSimpArgs false

/-! ### laws_szSpanS: function 20 -/
end Go.Proofs.Ytligcknlmbgbiaa.P

namespace Go.Proofs.Ytligcknlmbgbiaa.P
open Go.RowKit Go.Proofs.YtligcknlmbgbiaaW.PrintWords Go.Proofs.YtligcknlmbgbiaaW.PrintLast Go.Proofs.YtligcknlmbgbiaaW.PrintMore
attribute [local go_sem] max2_int min2_int max_two min_two max_three min_three max_four min_four
set_option linter.unusedVariables false
set_option linter.unusedSimpArgs false

/-! ### laws_toSpan: function 42 -/
end Go.Proofs.Ytligcknlmbgbiaa.P

namespace Go.Proofs.Ytligcknlmbgbiaa.P
open Go.RowKit Go.Proofs.YtligcknlmbgbiaaW.PrintWords Go.Proofs.YtligcknlmbgbiaaW.PrintLast Go.Proofs.YtligcknlmbgbiaaW.PrintMore
attribute [local go_sem] max2_int min2_int max_two min_two max_three min_three max_four min_four
set_option linter.unusedVariables false
set_option linter.unusedSimpArgs false

/-! ### laws_toSpanS: function 22 -/
end Go.Proofs.Ytligcknlmbgbiaa.P

namespace Go.Proofs.Ytligcknlmbgbiaa.P
open Go.RowKit Go.Proofs.YtligcknlmbgbiaaW.PrintWords Go.Proofs.YtligcknlmbgbiaaW.PrintLast Go.Proofs.YtligcknlmbgbiaaW.PrintMore
attribute [local go_sem] max2_int min2_int max_two min_two max_three min_three max_four min_four
set_option linter.unusedVariables false
set_option linter.unusedSimpArgs false

/-! ### laws_eqSpan: function 49 -/
end Go.Proofs.Ytligcknlmbgbiaa.P

namespace Go.Proofs.Ytligcknlmbgbiaa.P
open Go.RowKit Go.Proofs.YtligcknlmbgbiaaW.PrintWords Go.Proofs.YtligcknlmbgbiaaW.PrintLast Go.Proofs.YtligcknlmbgbiaaW.PrintMore
attribute [local go_sem] max2_int min2_int max_two min_two max_three min_three max_four min_four
set_option linter.unusedVariables false
set_option linter.unusedSimpArgs false

/-! ### laws_eqSpanS: function 24 -/
end Go.Proofs.Ytligcknlmbgbiaa.P

namespace Go.Proofs.Ytligcknlmbgbiaa.Pure
open Go.RowKit Go.Proofs.Ytligcknlmbgbiaa.P Go.Proofs.YtligcknlmbgbiaaW.PrintWords Go.Proofs.YtligcknlmbgbiaaW.PrintLast Go.Proofs.Ytligcknlmbgbiaa.Opn
set_option linter.unusedVariables false
set_option linter.unusedSimpArgs false

theorem rdSpan (l : List S59) (i : Nat) (h : i < l.length) : rd_T59 l (i : Int) = l[i] := by
 simp [rd_T59, List.getD_eq_getElem?_getD, List.getElem?_eq_getElem h]
theorem drop_rdSpan (l : List S59) (i : Nat) (h : i < l.length) : l.drop i = rd_T59 l (i : Int) :: l.drop (i + 1) := by
 rw [List.drop_eq_getElem_cons h, rdSpan l i h]
end Go.Proofs.Ytligcknlmbgbiaa.Pure

namespace Go.Proofs.Ytligcknlmbgbiaa.P
open Go.RowKit Go.Proofs.YtligcknlmbgbiaaW.PrintWords Go.Proofs.YtligcknlmbgbiaaW.PrintLast Go.Proofs.YtligcknlmbgbiaaW.PrintMore
attribute [local go_sem] max2_int min2_int max_two min_two max_three min_three max_four min_four
set_option linter.unusedVariables false
set_option linter.unusedSimpArgs false

/-! ### spec_l2Span: function 79 -/
def spec_l2Span.f (a0_0 : Int) (a0_1 : Int) : Option (Bool) := if a0_0 ≥ 0 then (if a0_0 < a0_1 then (some (decide (a0_1 ≤ 1000000))) else (some false)) else (some false)
end Go.Proofs.Ytligcknlmbgbiaa.P

namespace Go.Proofs.Ytligcknlmbgbiaa.P
open Go.RowKit Go.Proofs.YtligcknlmbgbiaaW.PrintWords Go.Proofs.YtligcknlmbgbiaaW.PrintLast Go.Proofs.YtligcknlmbgbiaaW.PrintMore
attribute [local go_sem] max2_int min2_int max_two min_two max_three min_three max_four min_four
set_option linter.unusedVariables false
set_option linter.unusedSimpArgs false

/-! ### spec_GoodSpans: function 65 -/
end Go.Proofs.Ytligcknlmbgbiaa.P

namespace Go.Proofs.Ytligcknlmbgbiaa.P
open Go.RowKit Go.Proofs.YtligcknlmbgbiaaW.PrintWords Go.Proofs.YtligcknlmbgbiaaW.PrintLast Go.Proofs.YtligcknlmbgbiaaW.PrintMore
attribute [local go_sem] max2_int min2_int max_two min_two max_three min_three max_four min_four
set_option linter.unusedVariables false
set_option linter.unusedSimpArgs false

/-! ### spec_l11Below: function 40 -/
end Go.Proofs.Ytligcknlmbgbiaa.P

namespace Go.Proofs.Ytligcknlmbgbiaa.Pure
open Go.RowKit Go.Proofs.Ytligcknlmbgbiaa.P Go.Proofs.YtligcknlmbgbiaaW.PrintWords Go.Proofs.YtligcknlmbgbiaaW.PrintLast Go.Proofs.Ytligcknlmbgbiaa.Opn
set_option linter.unusedVariables false
set_option linter.unusedSimpArgs false

abbrev Sp := S59
def isSp (x : Sp) : Bool := decide (0 ≤ x.f0) && (decide (x.f0 < x.f1) && decide (x.f1 ≤ 1000000))
theorem spec_isSp (x : Sp) : spec_l2Span.f x.f0 x.f1 = some (isSp x) := by
 unfold spec_l2Span.f isSp
 by_cases h : x.f0 ≥ 0
 ·have h' : 0 ≤ x.f0 := h
  by_cases h2 : x.f0 < x.f1
  ·simp [h', h2]
  ·simp [h2]
 ·have h' : ¬ 0 ≤ x.f0 := h
  simp [h']
theorem impl_isSp (x : Sp) : impl_isSpan.f x.f0 x.f1 = some (isSp x) := spec_isSp x
def aft (p : Option Int) (x : Int) : Bool := match p with
 | none => true
 | some q => decide (q < x)
def spOk : Option Int → List Sp → Bool
 | _, [] => true
 | p, x :: l => isSp x && (aft p x.f0 && spOk (some x.f1) l)
def pvS (l : List Sp) (i : Nat) : Option Int := if i = 0 then none else some (rd_T59 l ((i - 1 : Nat) : Int)).f1
theorem pvS_succ (l : List Sp) (i : Nat) : pvS l (i + 1) = some (rd_T59 l (i : Int)).f1 := by simp [pvS]
theorem areSpans_l0 (l : List Sp) (hn : l.length ≤ 1048576) : ∀ (d k i : Nat), i + d = l.length → d < k → impl_areSpans.l0 k l l (l.length : Int) (i : Int) = some (spOk (pvS l i) (l.drop i)) := by
 intro d
 induction d with
 | zero =>
  intro k i h hk
  obtain ⟨k, rfl⟩ := round hk
  rw [impl_areSpans.l0, if_neg (by omega), List.drop_of_length_le (by omega)]
  simp [spOk]
 | succ d ih =>
  intro k i h hk
  obtain ⟨k, rfl⟩ := round hk
  have := ih k (i + 1) (by omega) (by omega)
  rw [impl_areSpans.l0, if_pos (by omega), if_pos (by omega), if_pos (by omega), impl_isSp, Option.bind_some, drop_rdSpan l i (by omega), spOk, wrap_id (x := (i : Int) + 1) (by omega) (by omega)]
  rw [pvS_succ] at this
  have e : ((i + 1 : Nat) : Int) = (i : Int) + 1 := by omega
  rw [e] at this
  rw [this]
  cases hs : isSp (rd_T59 l (i : Int)) with
  | false => simp
  | true =>
   rw [if_pos rfl]
   by_cases h0 : i = 0
   ·subst h0
    simp [pvS, aft]
   ·have e1 : wrap64 ((i : Int) - 1) = ((i - 1 : Nat) : Int) := by rw [wrap_id (by omega) (by omega)]; omega
    rw [if_pos (by omega), e1, if_pos (by omega), if_pos (by omega)]
    unfold pvS
    rw [if_neg h0]
    by_cases hq : (rd_T59 l (i : Int)).f0 ≤ (rd_T59 l ((i - 1 : Nat) : Int)).f1
    ·rw [if_pos hq]
     have : ¬ (rd_T59 l ((i - 1 : Nat) : Int)).f1 < (rd_T59 l (i : Int)).f0 := by omega
     simp [aft, this]
    ·rw [if_neg hq]
     have : (rd_T59 l ((i - 1 : Nat) : Int)).f1 < (rd_T59 l (i : Int)).f0 := by omega
     simp [aft, this]
def goodSp (l : List Sp) : Bool := spOk none l && decide ((l.length : Int) ≤ 20)
theorem impl_goodSp (l : List Sp) (hn : l.length ≤ 1048576) (k : Nat) (hk : l.length < k) : impl_areSpans.f k l = some (goodSp l) := by
 unfold impl_areSpans.f goodSp
 have := areSpans_l0 l hn l.length k 0 (by omega) hk
 by_cases h : (l.length : Int) > 20
 ·have h' : ¬ (l.length : Int) ≤ 20 := by omega
  simp [h, h']
 ·have h' : (l.length : Int) ≤ 20 := by omega
  rw [if_neg h]
  simpa [pvS, h'] using this
def belowSp (l : List Sp) (a : Int) : Bool := goodSp l && (decide (l.length = 0) || decide ((rd_T59 l ((l.length : Int) - 1)).f1 ≤ a))
theorem impl_below (l : List Sp) (a : Int) (hn : l.length ≤ 1048576) (k : Nat) (hk : l.length < k) : impl_areBelow.f k l a = some (belowSp l a) := by
 unfold impl_areBelow.f belowSp
 rw [impl_goodSp l hn k hk, Option.bind_some, wrap_id (x := (l.length : Int) - 1) (by omega) (by omega)]
 cases goodSp l with
 | false => simp
 | true =>
  rw [if_pos rfl]
  by_cases h0 : l.length = 0
  ·rw [if_pos (by omega)]
   simp [h0]
  ·rw [if_neg (by omega), if_pos (by omega), if_pos (by omega)]
   simp only [h0, decide_false, Bool.false_or, Bool.true_and]
theorem l2Has_l0 (l : List Sp) (n : Int) (hn : l.length ≤ 1048576) : ∀ (d k i : Nat), i + d = l.length → d < k → spec_l2Has.l0 k n l (l.length : Int) (i : Int) = some ((l.drop i).any (inSpan n)) := by
 intro d
 induction d with
 | zero =>
  intro k i h hk
  obtain ⟨k, rfl⟩ := round hk
  rw [spec_l2Has.l0, if_neg (by omega), List.drop_of_length_le (by omega)]
  rfl
 | succ d ih =>
  intro k i h hk
  obtain ⟨k, rfl⟩ := round hk
  have := ih k (i + 1) (by omega) (by omega)
  have e : ((i + 1 : Nat) : Int) = (i : Int) + 1 := by omega
  rw [e] at this
  rw [spec_l2Has.l0, if_pos (by omega), if_pos (by omega), if_pos (by omega), drop_rdSpan l i (by omega), List.any_cons, wrap_id (x := (i : Int) + 1) (by omega) (by omega), this]
  unfold inSpan
  by_cases h1 : n ≥ (rd_T59 l (i : Int)).f0
  ·by_cases h2 : n < (rd_T59 l (i : Int)).f1
   ·rw [if_pos h1, if_pos h2]
    simp [h1, h2]
   ·rw [if_pos h1, if_neg h2]
    simp [h2]
  ·rw [if_neg h1]
   simp [h1]
theorem l2Has (l : List Sp) (n : Int) (hn : l.length ≤ 1048576) (k : Nat) (hk : l.length < k) : spec_l2Has.f k l n = some (l.any (inSpan n)) := by
 unfold spec_l2Has.f
 have := l2Has_l0 l n hn l.length k 0 (by omega) hk
 simpa using this

end Go.Proofs.Ytligcknlmbgbiaa.Pure

namespace Go.Proofs.Ytligcknlmbgbiaa.Pure
open Go.RowKit Go.Proofs.Ytligcknlmbgbiaa.P Go.Proofs.YtligcknlmbgbiaaW.PrintWords Go.Proofs.YtligcknlmbgbiaaW.PrintLast Go.Proofs.Ytligcknlmbgbiaa.Opn
set_option linter.unusedVariables false
set_option linter.unusedSimpArgs false

theorem toIntS_l0 (x : List Int) (hn : x.length ≤ 1048576) : ∀ (d k i : Nat) (y : List Int), i + d = x.length → d < k → y.length = x.length → y.take i = x.take i → laws_toIntS.l0 k x y (i : Int) = some x := by
 intro d
 induction d with
 | zero =>
  intro k i y hi hk hy ht
  obtain ⟨k, rfl⟩ := round hk
  simp only [laws_toIntS.l0]
  rw [if_neg (by omega)]
  have : i = x.length := by omega
  subst this
  rw [List.take_length, ← hy, List.take_length] at ht
  rw [ht]
 | succ d ih =>
  intro k i y hi hk hy ht
  obtain ⟨k, rfl⟩ := round hk
  simp only [laws_toIntS.l0]
  rw [if_pos (by omega), if_pos (by omega), if_pos (by omega), wrap_id (by omega) (by omega), Int.toNat_natCast]
  have := ih k (i + 1) (y.set i (rd x i)) (by omega) (by omega) (by simpa using hy) (by rw [take_set_succ _ _ (by omega), ht, take_rd _ _ (by omega)])
  simpa using this
theorem toIntS (x : List Int) (hn : x.length ≤ 1048576) (k : Nat) (hk : x.length < k) : laws_toIntS.f k x = some x := by
 unfold laws_toIntS.f
 rw [if_pos (by omega), if_pos (by omega), Int.toNat_natCast]
 exact toIntS_l0 x hn x.length k 0 _ (by omega) hk (by simp) (by simp)
theorem eqIntS_l0 (x y : List Int) (hn : x.length ≤ 1048576) (he : x.length = y.length) : ∀ (d k i : Nat), i + d = x.length → d < k → x.take i = y.take i → laws_eqIntS.l0 k x y (i : Int) = some (decide (x = y)) := by
 intro d
 induction d with
 | zero =>
  intro k i hi hk ht
  obtain ⟨k, rfl⟩ := round hk
  simp only [laws_eqIntS.l0]
  rw [if_neg (by omega)]
  have : i = x.length := by omega
  subst this
  rw [List.take_length, he, List.take_length] at ht
  simp [ht]
 | succ d ih =>
  intro k i hi hk ht
  obtain ⟨k, rfl⟩ := round hk
  simp only [laws_eqIntS.l0]
  rw [if_pos (by omega), if_pos (by omega), if_pos (by omega)]
  by_cases hc : rd x (i : Int) = rd y (i : Int)
  ·rw [if_pos hc, wrap_id (by omega) (by omega)]
   have := ih k (i + 1) (by omega) (by omega) (by rw [take_rd _ _ (by omega), take_rd _ _ (by omega), ht, hc])
   simpa using this
  ·rw [if_neg hc]
   have : x ≠ y := by rintro rfl; exact hc rfl
   simp [this]
theorem eqIntS (x y : List Int) (hn : x.length ≤ 1048576) (k : Nat) (hk : x.length < k) : laws_eqIntS.f k x y = some (decide (x = y)) := by
 unfold laws_eqIntS.f
 by_cases he : x.length = y.length
 ·rw [if_pos (by omega)]
  exact eqIntS_l0 x y hn he x.length k 0 (by omega) hk (by simp)
 ·rw [if_neg (by omega)]
  have : x ≠ y := by rintro rfl; exact he rfl
  simp [this]

end Go.Proofs.Ytligcknlmbgbiaa.Pure

namespace Go.Proofs.Ytligcknlmbgbiaa.P
open Go.RowKit Go.Proofs.YtligcknlmbgbiaaW.PrintWords Go.Proofs.YtligcknlmbgbiaaW.PrintLast Go.Proofs.YtligcknlmbgbiaaW.PrintMore
attribute [local go_sem] max2_int min2_int max_two min_two max_three min_three max_four min_four
set_option linter.unusedVariables false
set_option linter.unusedSimpArgs false

/-! ### laws_szIntS: function 32 -/
end Go.Proofs.Ytligcknlmbgbiaa.P

namespace Go.Proofs.Ytligcknlmbgbiaa.Pure
open Go.RowKit Go.Proofs.Ytligcknlmbgbiaa.P Go.Proofs.YtligcknlmbgbiaaW.PrintWords Go.Proofs.YtligcknlmbgbiaaW.PrintLast Go.Proofs.Ytligcknlmbgbiaa.Opn
set_option linter.unusedVariables false
set_option linter.unusedSimpArgs false

end Go.Proofs.Ytligcknlmbgbiaa.Pure

namespace Go.Proofs.Ytligcknlmbgbiaa.P
open Go.RowKit Go.Proofs.YtligcknlmbgbiaaW.PrintWords Go.Proofs.YtligcknlmbgbiaaW.PrintLast Go.Proofs.YtligcknlmbgbiaaW.PrintMore
attribute [local go_sem] max2_int min2_int max_two min_two max_three min_three max_four min_four
set_option linter.unusedVariables false
set_option linter.unusedSimpArgs false

/-! ### laws_szSender: function 8 -/
end Go.Proofs.Ytligcknlmbgbiaa.P

namespace Go.Proofs.Ytligcknlmbgbiaa.P
open Go.RowKit Go.Proofs.YtligcknlmbgbiaaW.PrintWords Go.Proofs.YtligcknlmbgbiaaW.PrintLast Go.Proofs.YtligcknlmbgbiaaW.PrintMore
attribute [local go_sem] max2_int min2_int max_two min_two max_three min_three max_four min_four
set_option linter.unusedVariables false
set_option linter.unusedSimpArgs false

/-! ### laws_toSender: function 10 -/
end Go.Proofs.Ytligcknlmbgbiaa.P

namespace Go.Proofs.Ytligcknlmbgbiaa.P
open Go.RowKit Go.Proofs.YtligcknlmbgbiaaW.PrintWords Go.Proofs.YtligcknlmbgbiaaW.PrintLast Go.Proofs.YtligcknlmbgbiaaW.PrintMore
attribute [local go_sem] max2_int min2_int max_two min_two max_three min_three max_four min_four
set_option linter.unusedVariables false
set_option linter.unusedSimpArgs false

/-! ### laws_eqSender: function 13 -/
end Go.Proofs.Ytligcknlmbgbiaa.P

namespace Go.Proofs.Ytligcknlmbgbiaa.P
open Go.RowKit Go.Proofs.YtligcknlmbgbiaaW.PrintWords Go.Proofs.YtligcknlmbgbiaaW.PrintLast Go.Proofs.YtligcknlmbgbiaaW.PrintMore
attribute [local go_sem] max2_int min2_int max_two min_two max_three min_three max_four min_four
set_option linter.unusedVariables false
set_option linter.unusedSimpArgs false

/-! ### spec_l11Rising: function 60 -/
end Go.Proofs.Ytligcknlmbgbiaa.P

namespace Go.Proofs.Ytligcknlmbgbiaa.P
open Go.RowKit Go.Proofs.YtligcknlmbgbiaaW.PrintWords Go.Proofs.YtligcknlmbgbiaaW.PrintLast Go.Proofs.YtligcknlmbgbiaaW.PrintMore
attribute [local go_sem] max2_int min2_int max_two min_two max_three min_three max_four min_four
set_option linter.unusedVariables false
set_option linter.unusedSimpArgs false

/-! ### spec_GoodSender: function 33 -/
end Go.Proofs.Ytligcknlmbgbiaa.P

namespace Go.Proofs.Ytligcknlmbgbiaa.Pure
open Go.RowKit Go.Proofs.Ytligcknlmbgbiaa.P Go.Proofs.YtligcknlmbgbiaaW.PrintWords Go.Proofs.YtligcknlmbgbiaaW.PrintLast Go.Proofs.Ytligcknlmbgbiaa.Opn
set_option linter.unusedVariables false
set_option linter.unusedSimpArgs false

def risOk (m : Int) : Option Int → List Int → Bool
 | _, [] => true
 | p, x :: l => decide (0 ≤ x ∧ x ≤ m) && (aft p x && risOk m (some x) l)
def pvI (l : List Int) (i : Nat) : Option Int := if i = 0 then none else some (rd l ((i - 1 : Nat) : Int))
theorem pvI_succ (l : List Int) (i : Nat) : pvI l (i + 1) = some (rd l (i : Int)) := by simp [pvI]
theorem implSender_l0 (a : Int) (l1 : List Sp) (l : List Int) (h1 : l1.length ≤ 1048576) (hn : l.length ≤ 1048576) : ∀ (d k i : Nat), i + d = l.length → d < k → impl_GoodSender.l0 k l (l.length : Int) (i : Int) a l1 l = some (risOk (wrap64 (a - 1)) (pvI l i) (l.drop i) && (l.drop i).all (fun n => !l1.any (inSpan n))) := by
 intro d
 induction d with
 | zero =>
  intro k i h hk
  obtain ⟨k, rfl⟩ := round hk
  rw [impl_GoodSender.l0, if_neg (by omega), List.drop_of_length_le (by omega)]
  rfl
 | succ d ih =>
  intro k i h hk
  obtain ⟨k, rfl⟩ := round hk
  have := ih k (i + 1) (by omega) (by omega)
  have e : ((i + 1 : Nat) : Int) = (i : Int) + 1 := by omega
  rw [pvI_succ, e] at this
  rw [impl_GoodSender.l0, if_pos (by omega), if_pos (by omega), if_pos (by omega), impl_in_, Option.bind_some, drop_rd l i (by omega), List.all_cons, risOk, wrap_id (x := (i : Int) + 1) (by omega) (by omega), this]
  unfold impl_has.f
  simp only [Option.bind_some]
  by_cases hs : 0 ≤ rd l (i : Int) ∧ rd l (i : Int) ≤ wrap64 (a - 1)
  ·rw [if_pos (by simpa using hs)]
   simp only [hs, and_self, decide_true, Bool.true_and]
   cases hh : l1.any (inSpan (rd l (i : Int))) with
   | true => simp
   | false =>
    rw [if_neg (by simp)]
    by_cases h0 : i = 0
    ·subst h0
     simp [pvI, aft]
    ·have e1 : wrap64 ((i : Int) - 1) = ((i - 1 : Nat) : Int) := by rw [wrap_id (by omega) (by omega)]; omega
     rw [if_pos (by omega), e1, if_pos (by omega), if_pos (by omega)]
     unfold pvI
     rw [if_neg h0]
     simp only [aft]
     by_cases hq : rd l (i : Int) ≤ rd l ((i - 1 : Nat) : Int)
     ·rw [if_pos hq]
      have : ¬ rd l ((i - 1 : Nat) : Int) < rd l (i : Int) := by omega
      simp [this]
     ·rw [if_neg hq]
      have : rd l ((i - 1 : Nat) : Int) < rd l (i : Int) := by omega
      simp [this]
  ·rw [if_neg (by simpa using hs)]
   simp [hs]
def goodSe (a : Int) (l1 : List Sp) (l : List Int) : Bool := decide (0 ≤ a ∧ a ≤ 60) && (belowSp l1 a && (risOk (wrap64 (a - 1)) none l && l.all (fun n => !l1.any (inSpan n))))
theorem impl_goodSe (a : Int) (l1 : List Sp) (l : List Int) (h1 : l1.length ≤ 1048576) (hn : l.length ≤ 1048576) (k : Nat) (hk : l.length + l1.length + 2 < k) : impl_GoodSender.f k a l1 l = some (goodSe a l1 l) := by
 obtain ⟨k, rfl⟩ := round hk
 unfold impl_GoodSender.f goodSe
 have h0 := implSender_l0 a l1 l h1 hn l.length k 0 (by omega) (by omega)
 have h0' : impl_GoodSender.l0 k l (l.length : Int) 0 a l1 l = some (risOk (wrap64 (a - 1)) none l && l.all (fun n => !l1.any (inSpan n))) := by simpa [pvI] using h0
 simp only [impl_in_, Option.bind_some, impl_below l1 a h1 (k + 1) (by omega), impl_GoodSender.j0, h0', if_true]
 by_cases h : 0 ≤ a ∧ a ≤ 60
 ·simp only [h, and_self, decide_true, if_true, Bool.true_and]
  cases belowSp l1 a <;> simp
 ·simp [h]

end Go.Proofs.Ytligcknlmbgbiaa.Pure

namespace Go.Proofs.Ytligcknlmbgbiaa.Pure
open Go.RowKit Go.Proofs.Ytligcknlmbgbiaa.P Go.Proofs.YtligcknlmbgbiaaW.PrintWords Go.Proofs.YtligcknlmbgbiaaW.PrintLast Go.Proofs.Ytligcknlmbgbiaa.Opn
set_option linter.unusedVariables false
set_option linter.unusedSimpArgs false

theorem l1Has_l0 (l : List Int) (a : Int) (hn : l.length ≤ 1048576) : ∀ (d k i : Nat), i + d = l.length → d < k → spec_l1Has.l0 k a l (l.length : Int) (i : Int) = some (decide (a ∈ l.drop i)) := by
 intro d
 induction d with
 | zero =>
  intro k i h hk
  obtain ⟨k, rfl⟩ := round hk
  simp only [spec_l1Has.l0]
  rw [if_neg (by omega), List.drop_of_length_le (by omega)]
  simp
 | succ d ih =>
  intro k i h hk
  obtain ⟨k, rfl⟩ := round hk
  simp only [spec_l1Has.l0]
  rw [if_pos (by omega), if_pos (by omega), if_pos (by omega), drop_rd l i (by omega)]
  by_cases hc : rd l (i : Int) = a
  ·rw [if_pos hc]
   simp [hc]
  ·rw [if_neg hc, wrap_id (by omega) (by omega)]
   have := ih k (i + 1) (by omega) (by omega)
   have hc' : ¬ a = rd l (i : Int) := fun e => hc e.symm
   simpa [hc'] using this
theorem l1Has (l : List Int) (a : Int) (hn : l.length ≤ 1048576) (k : Nat) (hk : l.length < k) : spec_l1Has.f k l a = some (decide (a ∈ l)) := by
 unfold spec_l1Has.f
 have := l1Has_l0 l a hn l.length k 0 (by omega) hk
 simpa using this
theorem index_l0 (l : List Int) (a : Int) (hn : l.length ≤ 1048576) : ∀ (d k i : Nat), i + d = l.length → d < k → ∃ r, slices_Index_int_int.l0 k l a (l.length : Int) (i : Int) = some r ∧ decide (r ≥ 0) = decide (a ∈ l.drop i) := by
 intro d
 induction d with
 | zero =>
  intro k i h hk
  obtain ⟨k, rfl⟩ := round hk
  refine ⟨-1, ?_, ?_⟩
  ·simp only [slices_Index_int_int.l0]
   rw [if_neg (by omega)]
  ·rw [List.drop_of_length_le (by omega)]
   simp
 | succ d ih =>
  intro k i h hk
  obtain ⟨k, rfl⟩ := round hk
  simp only [slices_Index_int_int.l0]
  rw [if_pos (by omega), if_pos (by omega), if_pos (by omega), drop_rd l i (by omega)]
  by_cases hc : a = rd l (i : Int)
  ·rw [if_pos hc]
   exact ⟨i, rfl, by simp [hc]⟩
  ·rw [if_neg hc, wrap_id (by omega) (by omega)]
   have := ih k (i + 1) (by omega) (by omega)
   simpa [hc] using this
theorem containsI (l : List Int) (a : Int) (hn : l.length ≤ 1048576) (k : Nat) (hk : l.length < k) : slices_Contains_int_int.f k l a = some (decide (a ∈ l)) := by
 unfold slices_Contains_int_int.f slices_Index_int_int.f
 obtain ⟨r, hr, hd⟩ := index_l0 l a hn l.length k 0 (by omega) hk
 have hr' : slices_Index_int_int.l0 k l a (l.length : Int) 0 = some r := by simpa using hr
 rw [hr', Option.bind_some, hd]
 simp

end Go.Proofs.Ytligcknlmbgbiaa.Pure

namespace Go.Proofs.Ytligcknlmbgbiaa.Pure
open Go.RowKit Go.Proofs.Ytligcknlmbgbiaa.P Go.Proofs.YtligcknlmbgbiaaW.PrintWords Go.Proofs.YtligcknlmbgbiaaW.PrintLast Go.Proofs.Ytligcknlmbgbiaa.Opn
set_option linter.unusedVariables false
set_option linter.unusedSimpArgs false

abbrev SpJ := S59
def InS (n : Int) (x : SpJ) : Prop := x.f0 ≤ n ∧ n < x.f1
def Cov (n : Int) (l : List SpJ) : Prop := ∃ x, x ∈ l ∧ InS n x
theorem cov_cons (n : Int) (x : SpJ) (l : List SpJ) : Cov n (x :: l) ↔ InS n x ∨ Cov n l := by
 unfold Cov
 constructor
 ·rintro ⟨z, hz, hi⟩
  rcases List.mem_cons.1 hz with rfl | h
  ·exact .inl hi
  ·exact .inr ⟨z, h, hi⟩
 ·rintro (h | ⟨z, hz, hi⟩)
  ·exact ⟨x, List.mem_cons_self, h⟩
  ·exact ⟨z, List.mem_cons_of_mem _ hz, hi⟩
theorem cov_nil (n : Int) : ¬ Cov n [] := by
 rintro ⟨z, hz, _⟩
 cases hz
theorem cov_append (n : Int) (l l' : List SpJ) : Cov n (l ++ l') ↔ Cov n l ∨ Cov n l' := by
 induction l with
 | nil => simp [cov_nil]
 | cons x l ih => rw [List.cons_append, cov_cons, cov_cons, ih, or_assoc]
theorem cov_perm (n : Int) {l l' : List SpJ} (h : l.Perm l') : Cov n l ↔ Cov n l' :=
 ⟨fun ⟨x, hx, hi⟩ => ⟨x, h.mem_iff.1 hx, hi⟩, fun ⟨x, hx, hi⟩ => ⟨x, h.mem_iff.2 hx, hi⟩⟩
def Nrm : List SpJ → Prop
 | [] => True
 | x :: l => x.f0 < x.f1 ∧ (∀ y, y ∈ l → x.f1 < y.f0) ∧ Nrm l
theorem nrm_valid : ∀ (l : List SpJ), Nrm l → ∀ z, z ∈ l → z.f0 < z.f1 := by
 intro l
 induction l with
 | nil => intro _ z hz; cases hz
 | cons x l ih =>
  intro h z hz
  rcases List.mem_cons.1 hz with rfl | hz
  ·exact h.1
  ·exact ih h.2.2 z hz
theorem nrm_first (x : SpJ) (l : List SpJ) (h : Nrm (x :: l)) (z : SpJ) (hz : z ∈ x :: l) : x.f0 ≤ z.f0 := by
 rcases List.mem_cons.1 hz with rfl | hz
 ·exact Int.le_refl _
 ·have := h.1
  have := h.2.1 z hz
  omega
theorem spj_ext (x y : SpJ) (h0 : x.f0 = y.f0) (h1 : x.f1 = y.f1) : x = y := by
 cases x
 cases y
 cases h0
 cases h1
 rfl
theorem nrm_uniq : ∀ (l1 l2 : List SpJ), Nrm l1 → Nrm l2 → (∀ n, Cov n l1 ↔ Cov n l2) → l1 = l2 := by
 intro l1
 induction l1 with
 | nil =>
  intro l2 _ h2 hc
  cases l2 with
  | nil => rfl
  | cons y s => exact absurd ((hc y.f0).2 ⟨y, List.mem_cons_self, Int.le_refl _, h2.1⟩) (cov_nil _)
 | cons x t ih =>
  intro l2 h1 h2 hc
  cases l2 with
  | nil => exact absurd ((hc x.f0).1 ⟨x, List.mem_cons_self, Int.le_refl _, h1.1⟩) (cov_nil _)
  | cons y s =>
   have hx := h1.1
   have hy := h2.1
   have e0 : x.f0 = y.f0 := by
    obtain ⟨z, hz, hz1, hz2⟩ := (hc x.f0).1 ⟨x, List.mem_cons_self, Int.le_refl _, h1.1⟩
    obtain ⟨w, hw, hw1, hw2⟩ := (hc y.f0).2 ⟨y, List.mem_cons_self, Int.le_refl _, h2.1⟩
    have a := nrm_first y s h2 z hz
    have b := nrm_first x t h1 w hw
    omega
   have e1 : x.f1 = y.f1 := by
    rcases Int.lt_trichotomy x.f1 y.f1 with h | h | h
    ·exfalso
     obtain ⟨z, hz, hz1, hz2⟩ := (hc x.f1).2 ⟨y, List.mem_cons_self, by omega, h⟩
     rcases List.mem_cons.1 hz with rfl | hz
     ·omega
     ·have := h1.2.1 z hz
      omega
    ·exact h
    ·exfalso
     obtain ⟨z, hz, hz1, hz2⟩ := (hc y.f1).1 ⟨x, List.mem_cons_self, by omega, h⟩
     rcases List.mem_cons.1 hz with rfl | hz
     ·omega
     ·have := h2.2.1 z hz
      omega
   have e := spj_ext x y e0 e1
   subst e
   congr 1
   refine ih s h1.2.2 h2.2.2 fun n => ⟨?_, ?_⟩
   ·rintro ⟨z, hz, hz1, hz2⟩
    have hlt := h1.2.1 z hz
    obtain ⟨w, hw, hw1, hw2⟩ := (hc n).1 ⟨z, List.mem_cons_of_mem _ hz, hz1, hz2⟩
    rcases List.mem_cons.1 hw with rfl | hw
    ·omega
    ·exact ⟨w, hw, hw1, hw2⟩
   ·rintro ⟨z, hz, hz1, hz2⟩
    have hlt := h2.2.1 z hz
    obtain ⟨w, hw, hw1, hw2⟩ := (hc n).2 ⟨z, List.mem_cons_of_mem _ hz, hz1, hz2⟩
    rcases List.mem_cons.1 hw with rfl | hw
    ·omega
    ·exact ⟨w, hw, hw1, hw2⟩
def mrgS (x : SpJ) : List SpJ → List SpJ
 | [] => [x]
 | y :: l => if y.f0 ≤ x.f1 then mrgS ⟨min x.f0 y.f0, max x.f1 y.f1⟩ l else x :: y :: l
theorem mrg_ok : ∀ (l : List SpJ) (x : SpJ), x.f0 < x.f1 → Nrm l → (∀ y, y ∈ l → x.f0 ≤ y.f1) → Nrm (mrgS x l) ∧ (∀ c : Int, c < x.f0 → (∀ y, y ∈ l → c < y.f0) → ∀ z, z ∈ mrgS x l → c < z.f0) ∧ (∀ n, Cov n (mrgS x l) ↔ InS n x ∨ Cov n l) := by
 intro l
 induction l with
 | nil =>
  intro x hx _ _
  refine ⟨⟨hx, fun y hy => (by cases hy), trivial⟩, fun c hc _ z hz => ?_, fun n => ?_⟩
  ·rcases List.mem_cons.1 hz with rfl | hz
   ·exact hc
   ·cases hz
  ·rw [mrgS, cov_cons]
 | cons y l ih =>
  intro x hx hN ht
  have hy := hN.1
  have hxy := ht y List.mem_cons_self
  by_cases h : y.f0 ≤ x.f1
  ·have := ih ⟨min x.f0 y.f0, max x.f1 y.f1⟩ (by dsimp only; omega) hN.2.2 (fun z hz => by
    have := ht z (List.mem_cons_of_mem _ hz)
    dsimp only
    omega)
   rw [mrgS, if_pos h]
   refine ⟨this.1, fun c hc hl z hz => this.2.1 c ?_ (fun w hw => hl w (List.mem_cons_of_mem _ hw)) z hz, fun n => ?_⟩
   ·have := hl y List.mem_cons_self
    dsimp only
    omega
   ·rw [this.2.2 n, cov_cons, ← or_assoc]
    refine or_congr ?_ Iff.rfl
    unfold InS
    dsimp only
    omega
  ·rw [mrgS, if_neg h]
   refine ⟨⟨hx, fun z hz => ?_, hN⟩, fun c hc hl z hz => ?_, fun n => cov_cons n x _⟩
   ·rcases List.mem_cons.1 hz with rfl | hz
    ·omega
    ·have := hN.2.1 z hz
     omega
   ·rcases List.mem_cons.1 hz with rfl | hz
    ·exact hc
    ·exact hl z hz
def addS (x : SpJ) : List SpJ → List SpJ
 | [] => [x]
 | y :: l => if y.f1 < x.f0 then y :: addS x l else mrgS x (y :: l)
theorem add_ok (x : SpJ) (hx : x.f0 < x.f1) : ∀ (l : List SpJ), Nrm l → Nrm (addS x l) ∧ (∀ c : Int, c < x.f0 → (∀ y, y ∈ l → c < y.f0) → ∀ z, z ∈ addS x l → c < z.f0) ∧ (∀ n, Cov n (addS x l) ↔ InS n x ∨ Cov n l) := by
 intro l
 induction l with
 | nil => exact fun _ => mrg_ok [] x hx trivial (fun y hy => by cases hy)
 | cons y l ih =>
  intro hN
  by_cases h : y.f1 < x.f0
  ·have := ih hN.2.2
   rw [addS, if_pos h]
   refine ⟨⟨hN.1, this.2.1 y.f1 h hN.2.1, this.1⟩, fun c hc hl z hz => ?_, fun n => ?_⟩
   ·rcases List.mem_cons.1 hz with rfl | hz
    ·exact hl _ List.mem_cons_self
    ·exact this.2.1 c hc (fun w hw => hl w (List.mem_cons_of_mem _ hw)) z hz
   ·rw [cov_cons, cov_cons, this.2.2 n, or_left_comm]
  ·rw [addS, if_neg h]
   refine mrg_ok (y :: l) x hx hN fun z hz => ?_
   rcases List.mem_cons.1 hz with rfl | hz
   ·omega
   ·have := hN.2.1 z hz
    have := nrm_valid l hN.2.2 z hz
    omega
def jnS (cur : SpJ) : List SpJ → List SpJ
 | [] => [cur]
 | x :: l => if x.f0 ≤ cur.f1 then jnS ⟨cur.f0, max cur.f1 x.f1⟩ l else cur :: jnS x l
theorem jn_ok : ∀ (l : List SpJ) (cur : SpJ), cur.f0 < cur.f1 → (∀ x, x ∈ l → x.f0 < x.f1) → (∀ x, x ∈ l → cur.f0 ≤ x.f0) → l.Pairwise (fun a b => a.f0 ≤ b.f0) → Nrm (jnS cur l) ∧ (∀ z, z ∈ jnS cur l → cur.f0 ≤ z.f0) ∧ (∀ n, Cov n (jnS cur l) ↔ InS n cur ∨ Cov n l) := by
 intro l
 induction l with
 | nil =>
  intro cur hc _ _ _
  refine ⟨⟨hc, fun y hy => (by cases hy), trivial⟩, fun z hz => ?_, fun n => by rw [jnS, cov_cons]⟩
  rcases List.mem_cons.1 hz with rfl | hz
  ·exact Int.le_refl _
  ·cases hz
 | cons x l ih =>
  intro cur hc hv hle hp
  have hx := hv x List.mem_cons_self
  have hcx := hle x List.mem_cons_self
  have hp' := List.pairwise_cons.1 hp
  by_cases h : x.f0 ≤ cur.f1
  ·have := ih ⟨cur.f0, max cur.f1 x.f1⟩ (by dsimp only; omega) (fun z hz => hv z (List.mem_cons_of_mem _ hz)) (fun z hz => hle z (List.mem_cons_of_mem _ hz)) hp'.2
   rw [jnS, if_pos h]
   refine ⟨this.1, this.2.1, fun n => ?_⟩
   rw [this.2.2 n, cov_cons, ← or_assoc]
   refine or_congr ?_ Iff.rfl
   unfold InS
   dsimp only
   omega
  ·have := ih x hx (fun z hz => hv z (List.mem_cons_of_mem _ hz)) (fun z hz => hp'.1 z hz) hp'.2
   rw [jnS, if_neg h]
   refine ⟨⟨hc, fun z hz => ?_, this.1⟩, fun z hz => ?_, fun n => ?_⟩
   ·have := this.2.1 z hz
    omega
   ·rcases List.mem_cons.1 hz with rfl | hz
    ·exact Int.le_refl _
    ·have := this.2.1 z hz
     omega
   ·rw [cov_cons, cov_cons, this.2.2 n]
def joinS : List SpJ → List SpJ
 | [] => []
 | x :: l => jnS x l
theorem join_ok (l : List SpJ) (hv : ∀ x, x ∈ l → x.f0 < x.f1) (hp : l.Pairwise (fun a b => a.f0 ≤ b.f0)) : Nrm (joinS l) ∧ ∀ n, Cov n (joinS l) ↔ Cov n l := by
 cases l with
 | nil => exact ⟨trivial, fun n => Iff.rfl⟩
 | cons x l =>
  have hp' := List.pairwise_cons.1 hp
  have := jn_ok l x (hv x List.mem_cons_self) (fun z hz => hv z (List.mem_cons_of_mem _ hz)) (fun z hz => hp'.1 z hz) hp'.2
  exact ⟨this.1, fun n => by rw [cov_cons]; exact this.2.2 n⟩
def sumS (acc l : List SpJ) : List SpJ := l.foldl (fun a x => addS x a) acc
theorem sum_ok : ∀ (l acc : List SpJ), (∀ x, x ∈ l → x.f0 < x.f1) → Nrm acc → Nrm (sumS acc l) ∧ ∀ n, Cov n (sumS acc l) ↔ Cov n acc ∨ Cov n l := by
 intro l
 induction l with
 | nil => exact fun acc _ ha => ⟨ha, fun n => by simp [sumS, cov_nil]⟩
 | cons x l ih =>
  intro acc hv ha
  have h1 := add_ok x (hv x List.mem_cons_self) acc ha
  have h2 := ih (addS x acc) (fun z hz => hv z (List.mem_cons_of_mem _ hz)) h1.1
  refine ⟨h2.1, fun n => ?_⟩
  have := h2.2 n
  rw [h1.2.2 n] at this
  rw [cov_cons]
  refine this.trans ?_
  rw [or_comm (a := InS n x), or_assoc]
/-- Whatever the order in which the spans lie: sorted by their beginnings and joined they are the spans put in one by one. -/
theorem join_perm (l s : List SpJ) (hv : ∀ x, x ∈ l → x.f0 < x.f1) (hp : s.Perm l) (hs : s.Pairwise (fun a b => a.f0 ≤ b.f0)) : joinS s = sumS [] l := by
 have h1 := join_ok s (fun x hx => hv x (hp.mem_iff.1 hx)) hs
 have h2 := sum_ok l [] hv trivial
 refine nrm_uniq _ _ h1.1 h2.1 fun n => ?_
 rw [h1.2 n, h2.2 n, cov_perm n hp]
 simp [cov_nil]
theorem sum_append (a b : List SpJ) (ha : Nrm a) (hb : ∀ x, x ∈ b → x.f0 < x.f1) : sumS [] (a ++ b) = sumS a b := by
 have h1 := sum_ok (a ++ b) [] (fun x hx => (List.mem_append.1 hx).elim (nrm_valid a ha x) (hb x)) trivial
 have h2 := sum_ok b a hb ha
 refine nrm_uniq _ _ h1.1 h2.1 fun n => ?_
 rw [h1.2 n, h2.2 n, cov_append]
 simp [cov_nil]

end Go.Proofs.Ytligcknlmbgbiaa.Pure

namespace Go.Proofs.Ytligcknlmbgbiaa.Pure
open Go.RowKit Go.Proofs.Ytligcknlmbgbiaa.P Go.Proofs.YtligcknlmbgbiaaW.PrintWords Go.Proofs.YtligcknlmbgbiaaW.PrintLast Go.Proofs.Ytligcknlmbgbiaa.Opn
set_option linter.unusedVariables false
set_option linter.unusedSimpArgs false

theorem least_min (a b : Int) : spec_l1Least.f a b = some (min a b) := by
 unfold spec_l1Least.f
 split <;> (congr 1; omega)
theorem most_max (a b : Int) : spec_l1Most.f a b = some (max a b) := by
 unfold spec_l1Most.f
 split <;> (congr 1; omega)
theorem rdJ (l : List SpJ) (i : Nat) (h : i < l.length) : rd_T59 l (i : Int) = l[i] := by
 simp [rd_T59, List.getD_eq_getElem?_getD, List.getElem?_eq_getElem h]
theorem dropJ (l : List SpJ) (i : Nat) (h : i < l.length) : l.drop i = rd_T59 l (i : Int) :: l.drop (i + 1) := by
 rw [List.drop_eq_getElem_cons h, rdJ l i h]
theorem add_j3 (x0 : List SpJ) (hn : x0.length ≤ 4194304) (k i : Nat) (x5 : List SpJ) (a b : Int) (h5 : x5.length ≤ 4194304) (hi : i ≤ x0.length) : spec_l2Add.j3 (k + 1) x0 x5 (i : Int) false a b = some (x5 ++ ⟨a, b⟩ :: x0.drop i) := by
 rw [spec_l2Add.j3, if_neg (by simp), if_pos (by omega)]
 simp only [Option.bind_some]
 rw [if_pos (by omega), if_pos (by omega), Int.toNat_natCast, if_pos (by simp only [List.length_append, List.length_drop, List.length_cons, List.length_nil]; omega), List.append_assoc]
 rfl
theorem add_l1 (x0 : List SpJ) (hn : x0.length ≤ 4194304) : ∀ (d k i : Nat) (x5 : List SpJ) (a b : Int), i + d = x0.length → 2 * d + 2 < k → x5.length ≤ 4194304 → spec_l2Add.l1 k x0 x5 (i : Int) a b = some (x5 ++ mrgS ⟨a, b⟩ (x0.drop i)) := by
 intro d
 induction d with
 | zero =>
  intro k i x5 a b hi hk h5
  obtain ⟨k, rfl⟩ : ∃ m, k = (m + 1) + 1 := ⟨k - 2, by omega⟩
  rw [spec_l2Add.l1, if_neg (by omega), add_j3 x0 hn k i x5 a b h5 (by omega), List.drop_eq_nil_of_le (by omega), mrgS]
 | succ d ih =>
  intro k i x5 a b hi hk h5
  obtain ⟨k, rfl⟩ : ∃ m, k = (m + 1) + 1 := ⟨k - 2, by omega⟩
  rw [spec_l2Add.l1, if_pos (by omega), if_pos (by omega), dropJ x0 i (by omega), mrgS]
  by_cases h : (rd_T59 x0 (i : Int)).f0 ≤ b
  ·rw [decide_eq_true h, if_pos h, spec_l2Add.j3, if_pos rfl, if_pos (by omega), if_pos (by omega), least_min, most_max, Option.bind_some, Option.bind_some, wrap_id (x := (i : Int) + 1) (by omega) (by omega)]
   exact ih k (i + 1) x5 _ _ (by omega) (by omega) h5
  ·rw [decide_eq_false h, if_neg h, add_j3 x0 hn k i x5 a b h5 (by omega), dropJ x0 i (by omega)]
theorem add_l0 (x0 : List SpJ) (hn : x0.length ≤ 2097152) : ∀ (d k i : Nat) (x5 : List SpJ) (a b : Int), i + d = x0.length → 3 * d + 4 < k → x5.length ≤ i → spec_l2Add.l0 k x0 x5 (i : Int) a b = some (x5 ++ addS ⟨a, b⟩ (x0.drop i)) := by
 intro d
 induction d with
 | zero =>
  intro k i x5 a b hi hk h5
  obtain ⟨k, rfl⟩ : ∃ m, k = (m + 1) + 1 := ⟨k - 2, by omega⟩
  rw [spec_l2Add.l0, if_neg (by omega), spec_l2Add.j1, add_l1 x0 (by omega) 0 k i x5 a b hi (by omega) (by omega), List.drop_eq_nil_of_le (by omega), addS, mrgS]
 | succ d ih =>
  intro k i x5 a b hi hk h5
  obtain ⟨k, rfl⟩ : ∃ m, k = (m + 1) + 1 := ⟨k - 2, by omega⟩
  rw [spec_l2Add.l0, if_pos (by omega), if_pos (by omega)]
  by_cases h : (rd_T59 x0 (i : Int)).f1 < a
  ·have := ih (k + 1) (i + 1) (x5 ++ [rd_T59 x0 (i : Int)]) a b (by omega) (by omega) (by simp; omega)
   have q : ((i + 1 : Nat) : Int) = (i : Int) + 1 := by omega
   rw [q] at this
   rw [if_pos h, if_pos (by omega), wrap_id (x := (i : Int) + 1) (by omega) (by omega), this, dropJ x0 i (by omega), addS, if_pos h, List.append_assoc]
   rfl
  ·rw [if_neg h, spec_l2Add.j1, add_l1 x0 (by omega) (d + 1) k i x5 a b hi (by omega) (by omega), dropJ x0 i (by omega), addS, if_neg h]
theorem l2Add (x0 : List SpJ) (hn : x0.length ≤ 2097152) (a b : Int) (k : Nat) (hk : 3 * x0.length + 4 < k) : spec_l2Add.f k x0 a b = some (addS ⟨a, b⟩ x0) := by
 unfold spec_l2Add.f
 exact add_l0 x0 hn x0.length k 0 [] a b (by omega) hk (by simp)
theorem mrg_len : ∀ (l : List SpJ) (x : SpJ), (mrgS x l).length ≤ l.length + 1 := by
 intro l
 induction l with
 | nil => intro x; simp [mrgS]
 | cons y l ih =>
  intro x
  rw [mrgS]
  split
  ·have := ih ⟨min x.f0 y.f0, max x.f1 y.f1⟩
   simp only [List.length_cons]
   omega
  ·simp
theorem add_len (x : SpJ) : ∀ (l : List SpJ), (addS x l).length ≤ l.length + 1 := by
 intro l
 induction l with
 | nil => simp [addS]
 | cons y l ih =>
  rw [addS]
  split
  ·simp only [List.length_cons]
   omega
  ·exact mrg_len _ _
theorem sum_len : ∀ (l acc : List SpJ), (sumS acc l).length ≤ acc.length + l.length := by
 intro l
 induction l with
 | nil => intro acc; simp [sumS]
 | cons x l ih =>
  intro acc
  have := ih (addS x acc)
  have h2 := add_len x acc
  have e : sumS acc (x :: l) = sumS (addS x acc) l := rfl
  rw [e, List.length_cons]
  omega

end Go.Proofs.Ytligcknlmbgbiaa.Pure

namespace Go.Proofs.Ytligcknlmbgbiaa.Pure
open Go.RowKit Go.Proofs.Ytligcknlmbgbiaa.P Go.Proofs.YtligcknlmbgbiaaW.PrintWords Go.Proofs.YtligcknlmbgbiaaW.PrintLast Go.Proofs.Ytligcknlmbgbiaa.Opn
set_option linter.unusedVariables false
set_option linter.unusedSimpArgs false

theorem mx_max (a b : Int) : mx a b = max a b := by
 unfold mx
 split <;> omega
theorem rd_last (pre : List SpJ) (c : SpJ) : rd_T59 (pre ++ [c]) (pre.length : Int) = c := by
 rw [rdJ _ _ (by simp)]
 simp
theorem set_last (pre : List SpJ) (c v : SpJ) : (pre ++ [c]).set pre.length v = pre ++ [v] := by
 simp
theorem joined_l0 (s : List SpJ) (hn : s.length ≤ 4194304) : ∀ (d k i : Nat) (pre : List SpJ) (cur : SpJ), i + d = s.length → d < k → pre.length ≤ i → impl_joined.l0 k (pre ++ [cur]) s (s.length : Int) (i : Int) = some (pre ++ jnS cur (s.drop i)) := by
 intro d
 induction d with
 | zero =>
  intro k i pre cur hi hk hp
  obtain ⟨k, rfl⟩ := round hk
  rw [impl_joined.l0, if_neg (by omega), List.drop_eq_nil_of_le (by omega), jnS]
 | succ d ih =>
  intro k i pre cur hi hk hp
  obtain ⟨k, rfl⟩ := round hk
  have hl : (pre ++ [cur]).length = pre.length + 1 := by simp
  have e : wrap64 (((pre ++ [cur]).length : Int) - 1) = (pre.length : Int) := by
   rw [hl, wrap_id (by omega) (by omega)]
   omega
  have q : ((i + 1 : Nat) : Int) = (i : Int) + 1 := by omega
  rw [impl_joined.l0, if_pos (by omega), if_pos (by omega), if_pos (by omega), e, if_pos (by omega), if_pos (by omega), if_pos (by rw [hl]; omega), rd_last, Int.toNat_natCast, wrap_id (x := (i : Int) + 1) (by omega) (by omega), dropJ s i (by omega), jnS]
  by_cases h : (rd_T59 s (i : Int)).f0 ≤ cur.f1
  ·rw [if_pos h, if_pos h, set_last, mx_max, ← q]
   exact ih k (i + 1) pre _ (by omega) (by omega) (by omega)
  ·have := ih k (i + 1) (pre ++ [cur]) (rd_T59 s (i : Int)) (by omega) (by omega) (by rw [hl]; omega)
   rw [if_neg h, if_neg h, if_pos (by rw [hl]; omega), ← q]
   refine Eq.trans ?_ (this.trans ?_)
   ·rfl
   ·rw [List.append_assoc]
    rfl
theorem joined_all (s : List SpJ) (hn : s.length ≤ 4194304) (k : Nat) (hk : s.length < k) : impl_joined.l0 k [] s (s.length : Int) 0 = some (joinS s) := by
 obtain ⟨k, rfl⟩ := round hk
 cases s with
 | nil => rw [impl_joined.l0, if_neg (by simp), joinS]
 | cons x t =>
  have e : wrap64 ((([] : List SpJ).length : Int) - 1) = -1 := by rw [wrap_id (by simp) (by simp)]; simp
  rw [impl_joined.l0, if_pos (by simp), if_pos (by omega), if_pos (by simp), e, if_neg (by omega), if_pos (by simp), wrap_id (x := (0 : Int) + 1) (by omega) (by omega)]
  exact joined_l0 (x :: t) hn t.length k 1 [] x (by simp; omega) (by simp at hk; omega) (by simp)
/-- impl.joined: the spans put in one by one. -/
theorem joined_sum (l : List SpJ) (hn : l.length ≤ 4194304) (hv : ∀ x, x ∈ l → 0 ≤ x.f0 ∧ x.f0 < x.f1 ∧ x.f0 ≤ 1000000000) (k : Nat) (hk : l.length < k) : impl_joined.f k l = some (sumS [] l) := by
 have hall : l.all okVS = true := by
  rw [List.all_eq_true]
  intro x hx
  have := hv x hx
  unfold okVS
  rw [decide_eq_true this.1, decide_eq_true (by omega)]
  rfl
 obtain ⟨r, hr⟩ : ∃ r, impl_Span_76.f l = some r := by
  unfold impl_Span_76.f
  rw [if_pos (by omega), if_pos hall]
  exact ⟨_, rfl⟩
 have hs := impl_Span_76.spec l r hr
 have hl := hs.1.length_eq
 unfold impl_joined.f impl_Span_38.f
 rw [Option.bind_some, if_pos (by simp; omega), Option.bind_some]
 rw [List.nil_append, hr, Option.bind_some, ← hl, joined_all r (by omega) k (by omega), join_perm l r (fun x hx => (hv x hx).2.1) hs.1 hs.2]

end Go.Proofs.Ytligcknlmbgbiaa.Pure

namespace Go.Proofs.Ytligcknlmbgbiaa.Pure
open Go.RowKit Go.Proofs.Ytligcknlmbgbiaa.P Go.Proofs.YtligcknlmbgbiaaW.PrintWords Go.Proofs.YtligcknlmbgbiaaW.PrintLast Go.Proofs.Ytligcknlmbgbiaa.Opn
set_option linter.unusedVariables false
set_option linter.unusedSimpArgs false

/-- Two lists that rise strictly and hold the same numbers are one. -/
theorem asc_uniq : ∀ (l1 l2 : List Int), l1.Pairwise (· < ·) → l2.Pairwise (· < ·) → (∀ n, n ∈ l1 ↔ n ∈ l2) → l1 = l2 := by
 intro l1
 induction l1 with
 | nil =>
  intro l2 _ _ hc
  cases l2 with
  | nil => rfl
  | cons y s => exact absurd ((hc y).2 List.mem_cons_self) (by simp)
 | cons x t ih =>
  intro l2 h1 h2 hc
  cases l2 with
  | nil => exact absurd ((hc x).1 List.mem_cons_self) (by simp)
  | cons y s =>
   have p1 := List.pairwise_cons.1 h1
   have p2 := List.pairwise_cons.1 h2
   have e : x = y := by
    rcases List.mem_cons.1 ((hc x).1 List.mem_cons_self) with h | h
    ·exact h
    ·rcases List.mem_cons.1 ((hc y).2 List.mem_cons_self) with h' | h'
     ·exact h'.symm
     ·have := p2.1 x h
      have := p1.1 y h'
      omega
   subst e
   congr 1
   refine ih s p1.2 p2.2 fun n => ⟨fun h => ?_, fun h => ?_⟩
   ·rcases List.mem_cons.1 ((hc n).1 (List.mem_cons_of_mem _ h)) with h' | h'
    ·have := p1.1 n h
     omega
    ·exact h'
   ·rcases List.mem_cons.1 ((hc n).2 (List.mem_cons_of_mem _ h)) with h' | h'
    ·have := p2.1 n h
     omega
    ·exact h'
theorem asc_of_le {l : List Int} (h : l.Pairwise (· ≤ ·)) (hn : l.Nodup) : l.Pairwise (· < ·) := by
 induction l with
 | nil => exact List.Pairwise.nil
 | cons x l ih =>
  have q := List.pairwise_cons.1 h
  have n := List.nodup_cons.1 hn
  refine List.pairwise_cons.2 ⟨fun z hz => ?_, ih q.2 n.2⟩
  have := q.1 z hz
  rcases Int.lt_or_eq_of_le this with h | h
  ·exact h
  ·exact absurd (h ▸ hz) n.1
theorem nodup_of_asc {l : List Int} (h : l.Pairwise (· < ·)) : l.Nodup := h.imp (fun h e => by omega)

end Go.Proofs.Ytligcknlmbgbiaa.Pure

namespace Go.Proofs.Ytligcknlmbgbiaa.Pure
open Go.RowKit Go.Proofs.Ytligcknlmbgbiaa.P Go.Proofs.YtligcknlmbgbiaaW.PrintWords Go.Proofs.YtligcknlmbgbiaaW.PrintLast Go.Proofs.Ytligcknlmbgbiaa.Opn
set_option linter.unusedVariables false
set_option linter.unusedSimpArgs false

theorem compact_ok (l : List Int) (h : l.Pairwise (· ≤ ·)) : (Go.Lib.compact l).Pairwise (· < ·) ∧ ∀ n, n ∈ Go.Lib.compact l ↔ n ∈ l := by
 have hget : ∀ j, j < l.length → l.toArray[j]! = l[j]! := fun j hj => by simp
 have hmono : ∀ i j, i ≤ j → j < l.length → l.toArray[i]! ≤ l.toArray[j]! := by
  intro i j hij hj
  rcases Nat.lt_or_eq_of_le hij with h1 | h1
  ·have := (List.pairwise_iff_getElem.1 h) i j (by omega) hj h1
   rw [hget i (by omega), hget j hj, getElem!_pos l i (by omega), getElem!_pos l j hj]
   exact this
  ·subst h1
   exact Int.le_refl _
 refine ⟨?_, fun n => ⟨fun hn => ?_, fun hn => ?_⟩⟩
 ·unfold Go.Lib.compact Go.Lib.compactUpTo
  rw [List.pairwise_map]
  refine List.Pairwise.imp_of_mem (fun {a b} ha hb hab => ?_) (List.Pairwise.filter (p := Go.Lib.keeps l.toArray) (List.pairwise_lt_range (n := l.length)))
  have hb1 := List.mem_filter.1 hb
  have hbl := List.mem_range.1 hb1.1
  have hk := of_decide_eq_true hb1.2
  rcases hk with hk | hk
  ·omega
  ·have h1 := hmono a (b - 1) (by omega) (by omega)
   have h2 := hmono (b - 1) b (by omega) hbl
   omega
 ·obtain ⟨j, hj, rfl⟩ := List.mem_map.1 hn
  have hjl := List.mem_range.1 (List.mem_filter.1 hj).1
  rw [hget j hjl, getElem!_pos l j hjl]
  exact List.getElem_mem hjl
 ·obtain ⟨j, hj, rfl⟩ := List.getElem_of_mem hn
  have key : ∀ j, j < l.length → l.toArray[j]! ∈ Go.Lib.compact l := by
   intro j
   induction j with
   | zero =>
    intro h0
    refine List.mem_map.2 ⟨0, List.mem_filter.2 ⟨List.mem_range.2 h0, ?_⟩, rfl⟩
    exact decide_eq_true (.inl rfl)
   | succ j ih =>
    intro hj
    by_cases e : l.toArray[j + 1]! = l.toArray[j]!
    ·rw [e]
     exact ih (by omega)
    ·exact List.mem_map.2 ⟨j + 1, List.mem_filter.2 ⟨List.mem_range.2 hj, decide_eq_true (.inr (by simpa using e))⟩, rfl⟩
  have := key j hj
  rwa [hget j hj, getElem!_pos l j hj] at this
theorem sort_ok (l : List Int) : (l.mergeSort fun x y => decide (x ≤ y)).Pairwise (· ≤ ·) ∧ ∀ n, n ∈ (l.mergeSort fun x y => decide (x ≤ y)) ↔ n ∈ l := by
 refine ⟨?_, fun n => (List.mergeSort_perm l _).mem_iff⟩
 have := List.pairwise_mergeSort (le := fun x y : Int => decide (x ≤ y)) (fun a b c h1 h2 => decide_eq_true (by have := of_decide_eq_true h1; have := of_decide_eq_true h2; omega)) (fun a b => by
  rcases Int.le_total a b with h | h
  ·simp [h]
  ·simp [h]) l
 exact this.imp fun h => of_decide_eq_true h

end Go.Proofs.Ytligcknlmbgbiaa.Pure

namespace Go.Proofs.Ytligcknlmbgbiaa.P
open Go.RowKit Go.Proofs.YtligcknlmbgbiaaW.PrintWords Go.Proofs.YtligcknlmbgbiaaW.PrintLast Go.Proofs.YtligcknlmbgbiaaW.PrintMore
attribute [local go_sem] max2_int min2_int max_two min_two max_three min_three max_four min_four
set_option linter.unusedVariables false
set_option linter.unusedSimpArgs false

/-! ### spec_l11Own: function 37 -/
end Go.Proofs.Ytligcknlmbgbiaa.P

namespace Go.Proofs.Ytligcknlmbgbiaa.P
open Go.RowKit Go.Proofs.YtligcknlmbgbiaaW.PrintWords Go.Proofs.YtligcknlmbgbiaaW.PrintLast Go.Proofs.YtligcknlmbgbiaaW.PrintMore
attribute [local go_sem] max2_int min2_int max_two min_two max_three min_three max_four min_four
set_option linter.unusedVariables false
set_option linter.unusedSimpArgs false

/-! ### spec_HearSpans: function 21 -/
end Go.Proofs.Ytligcknlmbgbiaa.P

namespace Go.Proofs.Ytligcknlmbgbiaa.Pure
open Go.RowKit Go.Proofs.Ytligcknlmbgbiaa.P Go.Proofs.YtligcknlmbgbiaaW.PrintWords Go.Proofs.YtligcknlmbgbiaaW.PrintLast Go.Proofs.Ytligcknlmbgbiaa.Opn
set_option linter.unusedVariables false
set_option linter.unusedSimpArgs false

def opn (l1 : List Sp) (l2 : List Int) : Nat → Int → List Int
 | 0, _ => []
 | d + 1, i => if l1.any (inSpan i) || decide (i ∈ l2) then opn l1 l2 d (i + 1) else i :: opn l1 l2 d (i + 1)
theorem opn_len (l1 : List Sp) (l2 : List Int) : ∀ (d : Nat) (i : Int), (opn l1 l2 d i).length ≤ d := by
 intro d
 induction d with
 | zero => intro i; simp [opn]
 | succ d ih =>
  intro i
  have := ih (i + 1)
  rw [opn]
  split
  ·omega
  ·simp only [List.length_cons]
   omega
theorem impl_open_l0 (a : Int) (l1 : List Sp) (l2 : List Int) (h1 : l1.length ≤ 1048576) (h2 : l2.length ≤ 1048576) (ha : a ≤ 60) : ∀ (d k : Nat) (i : Int) (x : List Int), i + d = a → 0 ≤ i → d + l1.length + l2.length + 1 < k → x.length ≤ 100 + i.toNat → impl_Sender_open.l0 k x a i a l1 l2 = some (x ++ opn l1 l2 d i, a) := by
 intro d
 induction d with
 | zero =>
  intro k i x hi h0 hk hx
  obtain ⟨k, rfl⟩ := round (d := 0) (k := k) (by omega)
  rw [impl_Sender_open.l0, if_neg (by omega), opn, List.append_nil]
 | succ d ih =>
  intro k i x hi h0 hk hx
  obtain ⟨k, rfl⟩ := round (d := 0) (k := k) (by omega)
  rw [impl_Sender_open.l0, if_pos (by omega)]
  unfold impl_has.f
  rw [Option.bind_some, wrap_id (x := i + 1) (by omega) (by omega), opn]
  cases hb : l1.any (inSpan i) with
  | true =>
   rw [if_pos rfl, Bool.true_or, if_pos rfl]
   exact ih k (i + 1) x (by omega) (by omega) (by omega) (by omega)
  | false =>
   rw [if_neg (show ¬ (false = true) by decide), containsI l2 i h2 k (by omega), Option.bind_some, Bool.false_or]
   cases hc : decide (i ∈ l2) with
   | true =>
    rw [if_pos rfl, if_pos rfl]
    exact ih k (i + 1) x (by omega) (by omega) (by omega) (by omega)
   | false =>
    rw [if_neg (show ¬ (false = true) by decide), if_neg (show ¬ (false = true) by decide), if_pos (by omega), ih k (i + 1) (x ++ [i]) (by omega) (by omega) (by omega) (by simp only [List.length_append, List.length_cons, List.length_nil]; omega), List.append_assoc]
    rfl

def rng (p : Int → Bool) : Nat → Int → List Int
 | 0, _ => []
 | d + 1, i => if p i then i :: rng p d (i + 1) else rng p d (i + 1)
theorem rng_len (p : Int → Bool) : ∀ (d : Nat) (i : Int), (rng p d i).length ≤ d := by
 intro d
 induction d with
 | zero => intro i; simp [rng]
 | succ d ih =>
  intro i
  have := ih (i + 1)
  rw [rng]
  split
  ·simp only [List.length_cons]
   omega
  ·omega
theorem mem_rng (p : Int → Bool) (n : Int) : ∀ (d : Nat) (i : Int), n ∈ rng p d i ↔ i ≤ n ∧ n < i + d ∧ p n = true := by
 intro d
 induction d with
 | zero =>
  intro i
  simp only [rng, List.not_mem_nil, false_iff]
  omega
 | succ d ih =>
  intro i
  rw [rng]
  cases hp : p i with
  | true =>
   rw [if_pos rfl, List.mem_cons, ih]
   constructor
   ·rintro (rfl | h)
    ·exact ⟨by omega, by omega, hp⟩
    ·exact ⟨by omega, by omega, h.2.2⟩
   ·rintro ⟨h1, h2, h3⟩
    by_cases e : n = i
    ·exact .inl e
    ·exact .inr ⟨by omega, by omega, h3⟩
  | false =>
   rw [if_neg (by simp), ih]
   constructor
   ·rintro ⟨h1, h2, h3⟩
    exact ⟨by omega, by omega, h3⟩
   ·rintro ⟨h1, h2, h3⟩
    have : n ≠ i := by
     rintro rfl
     rw [hp] at h3
     cases h3
    exact ⟨by omega, by omega, h3⟩
theorem rng_asc (p : Int → Bool) : ∀ (d : Nat) (i : Int), (rng p d i).Pairwise (· < ·) := by
 intro d
 induction d with
 | zero => intro i; simp [rng]
 | succ d ih =>
  intro i
  rw [rng]
  split
  ·refine List.pairwise_cons.2 ⟨fun n hn => ?_, ih _⟩
   have := (mem_rng p n d (i + 1)).1 hn
   omega
  ·exact ih _
theorem rng_congr (p q : Int → Bool) : ∀ (d : Nat) (i : Int), (∀ n, i ≤ n → n < i + d → p n = q n) → rng p d i = rng q d i := by
 intro d
 induction d with
 | zero => intro i _; rfl
 | succ d ih =>
  intro i h
  rw [rng, rng, h i (by omega) (by omega), ih (i + 1) (fun n h1 h2 => h n (by omega) (by omega))]
theorem rng_filter (p q : Int → Bool) : ∀ (d : Nat) (i : Int), (rng p d i).filter q = rng (fun n => p n && q n) d i := by
 intro d
 induction d with
 | zero => intro i; rfl
 | succ d ih =>
  intro i
  rw [rng, rng]
  cases hp : p i <;> cases hq : q i <;> simp [hq, ih]
theorem opn_rng (l1 : List Sp) (l2 : List Int) : ∀ (d : Nat) (i : Int), opn l1 l2 d i = rng (fun n => !(l1.any (inSpan n) || decide (n ∈ l2))) d i := by
 intro d
 induction d with
 | zero => intro i; rfl
 | succ d ih =>
  intro i
  rw [opn, rng, ih]
  cases l1.any (inSpan i) || decide (i ∈ l2) <;> simp
def frP (J h : List Sp) (n : Int) : Bool := J.any (inSpan n) && !h.any (inSpan n)
def lpP (J : List Sp) (t : List Int) (top n : Int) : Bool := !J.any (inSpan n) && (decide (n ∈ t) || decide (top ≥ n + 3))
def npP (J : List Sp) (t : List Int) (top n : Int) : Bool := !J.any (inSpan n) && (!decide (n ∈ t) && decide (top ≥ n + 3))
def topJ (J : List Sp) : Int := if (J.length : Int) > 0 then wrap64 ((rd_T59 J (wrap64 ((J.length : Int) - 1))).f1 - 1) else -1
theorem spec_lost (a : Int) (h J : List Sp) (t : List Int) (top : Int) (x9 : List Int) (hJ : J.length ≤ 1048576) (ht : t.length ≤ 1048576) (ha : a ≤ 60) : ∀ (d k : Nat) (i : Int) (x10 y : List Int), i + d = a → 0 ≤ i → 2 * d + J.length + t.length + 2 < k → x10.length ≤ 100 + i.toNat → y.length ≤ 100 + i.toNat →
  spec_l11Hear.l1 k x9 x10 top i a h t a J y = some (a, J, y ++ rng (lpP J t top) d i, x9, x10 ++ rng (npP J t top) d i, decide ((J.length : Int) ≤ 20)) := by
 intro d
 induction d with
 | zero =>
  intro k i x10 y hi h0 hk hx hy
  obtain ⟨k, rfl⟩ := round (d := 0) (k := k) (by omega)
  rw [spec_l11Hear.l1, if_neg (by omega), rng, rng, List.append_nil, List.append_nil]
 | succ d ih =>
  intro k i x10 y hi h0 hk hx hy
  obtain ⟨k, rfl⟩ := round (d := 0) (k := k) (by omega)
  rw [spec_l11Hear.l1, if_pos (by omega), l2Has J i hJ k (by omega), Option.bind_some, wrap_id (x := i + 1) (by omega) (by omega), wrap_id (x := i + 3) (by omega) (by omega), rng, rng]
  cases hb : J.any (inSpan i) with
  | true =>
   rw [if_pos rfl, show lpP J t top i = false from by simp [lpP, hb], show npP J t top i = false from by simp [npP, hb]]
   exact ih k (i + 1) x10 y (by omega) (by omega) (by omega) (by omega) (by omega)
  | false =>
   rw [if_neg (by simp), l1Has t i ht k (by omega), Option.bind_some]
   obtain ⟨k, rfl⟩ := round (d := 0) (k := k) (by omega)
   cases hc : decide (i ∈ t) with
   | true =>
    rw [if_pos rfl, show lpP J t top i = true from by simp only [lpP, hb, hc]; rfl, show npP J t top i = false from by simp only [npP, hb, hc]; rfl, spec_l11Hear.j3, if_pos rfl, if_pos (by omega), Option.bind_some, if_pos rfl, wrap_id (x := i + 1) (by omega) (by omega)]
    rw [ih k (i + 1) x10 (y ++ [i]) (by omega) (by omega) (by omega) (by omega) (by simp only [List.length_append, List.length_cons, List.length_nil]; omega), List.append_assoc]
    rfl
   | false =>
    rw [if_neg (by simp), spec_l11Hear.j3, wrap_id (x := i + 1) (by omega) (by omega), wrap_id (x := i + 3) (by omega) (by omega)]
    by_cases hd : top ≥ i + 3
    ·rw [if_pos (by simpa using hd), show lpP J t top i = true from by simp only [lpP, hb, hc, hd, decide_true]; rfl, show npP J t top i = true from by simp only [npP, hb, hc, hd, decide_true]; rfl, if_pos (by omega), Option.bind_some, if_neg (by simp), if_pos hd, if_pos (by omega)]
     rw [ih k (i + 1) (x10 ++ [i]) (y ++ [i]) (by omega) (by omega) (by omega) (by simp only [List.length_append, List.length_cons, List.length_nil]; omega) (by simp only [List.length_append, List.length_cons, List.length_nil]; omega), List.append_assoc, List.append_assoc]
     rfl
    ·rw [if_neg (by simpa using hd), show lpP J t top i = false from by simp only [lpP, hb, hc, hd, decide_false]; rfl, show npP J t top i = false from by simp only [npP, hb, hc, hd, decide_false]; rfl, if_neg (by simp), if_neg hd]
     exact ih k (i + 1) x10 y (by omega) (by omega) (by omega) (by omega) (by omega)
theorem spec_fresh (a : Int) (h J : List Sp) (t : List Int) (hJ : J.length ≤ 1048576) (hh : h.length ≤ 1048576) (ht : t.length ≤ 1048576) (n : Nat) (hn : (n : Int) = a) (ha : a ≤ 60) : ∀ (d k : Nat) (i : Int) (x : List Int), i + d = a → 0 ≤ i → d + 2 * n + J.length + h.length + t.length + 5 < k → x.length ≤ 100 + i.toNat →
  spec_l11Hear.l0 k x i a h t a J = some (a, J, rng (lpP J t (topJ J)) n 0, x ++ rng (frP J h) d i, rng (npP J t (topJ J)) n 0, decide ((J.length : Int) ≤ 20)) := by
 intro d
 induction d with
 | zero =>
  intro k i x hi h0 hk hx
  obtain ⟨k, rfl⟩ := round (d := 0) (k := k) (by omega)
  obtain ⟨k, rfl⟩ := round (d := 0) (k := k) (by omega)
  rw [spec_l11Hear.l0, if_neg (by omega), rng, List.append_nil]
  by_cases hj : (J.length : Int) > 0
  ·rw [if_pos hj, if_pos (by rw [wrap_id (by omega) (by omega)]; omega), if_pos (by rw [wrap_id (by omega) (by omega)]; omega), spec_l11Hear.j1]
   have := spec_lost a h J t (topJ J) x hJ ht ha n k 0 [] [] (by omega) (by omega) (by omega) (by simp) (by simp)
   rw [show topJ J = wrap64 ((rd_T59 J (wrap64 ((J.length : Int) - 1))).f1 - 1) from if_pos hj] at this ⊢
   exact this
  ·rw [if_neg hj, spec_l11Hear.j1]
   have := spec_lost a h J t (topJ J) x hJ ht ha n k 0 [] [] (by omega) (by omega) (by omega) (by simp) (by simp)
   rw [show topJ J = -1 from if_neg hj] at this ⊢
   exact this
 | succ d ih =>
  intro k i x hi h0 hk hx
  obtain ⟨k, rfl⟩ := round (d := 0) (k := k) (by omega)
  rw [spec_l11Hear.l0, if_pos (by omega), l2Has J i hJ k (by omega), Option.bind_some, wrap_id (x := i + 1) (by omega) (by omega), rng]
  cases hb : J.any (inSpan i) with
  | false =>
   rw [if_neg (by simp), show frP J h i = false from by simp [frP, hb], if_neg (by simp)]
   exact ih k (i + 1) x (by omega) (by omega) (by omega) (by omega)
  | true =>
   rw [if_pos rfl, l2Has h i hh k (by omega), Option.bind_some]
   cases hc : h.any (inSpan i) with
   | true =>
    rw [if_pos rfl, show frP J h i = false from by simp only [frP, hb, hc]; rfl, if_neg (by simp)]
    exact ih k (i + 1) x (by omega) (by omega) (by omega) (by omega)
   | false =>
    rw [if_neg (by simp), show frP J h i = true from by simp only [frP, hb, hc]; rfl, if_pos rfl, if_pos (by omega), ih k (i + 1) (x ++ [i]) (by omega) (by omega) (by omega) (by simp only [List.length_append, List.length_cons, List.length_nil]; omega), List.append_assoc]
    rfl
def srtI (l : List Int) : List Int := l.mergeSort fun x y => decide (x ≤ y)
theorem impl_new (a : Int) (J : List Sp) (D o x10 : List Int) (top : Int) (hD : D.length ≤ 1048576) (hon : o.length ≤ 1000) (ho : ∀ n, n ∈ o → 0 ≤ n ∧ n ≤ 100) : ∀ (d k i : Nat) (x11 : List Int), i + d = o.length → d < k → x11.length ≤ i →
  impl_HearSpans.l1 k x10 x11 top o (o.length : Int) (i : Int) a J D = some (a, J, srtI (D ++ (x11 ++ (o.drop i).filter fun n => decide (top ≥ n + 3))), x10, x11 ++ (o.drop i).filter (fun n => decide (top ≥ n + 3)), true) := by
 intro d
 induction d with
 | zero =>
  intro k i x11 hi hk hx
  obtain ⟨k, rfl⟩ := round (d := 0) (k := k) (by omega)
  rw [impl_HearSpans.l1, if_neg (by omega), if_pos (by omega), List.drop_of_length_le (by omega), List.filter_nil, List.append_nil]
  unfold slices_Sort_int_int.f
  rw [if_pos (by simp only [List.length_append]; omega), Option.bind_some]
  rfl
 | succ d ih =>
  intro k i x11 hi hk hx
  obtain ⟨k, rfl⟩ := round (d := 0) (k := k) (by omega)
  have hm := ho (rd o (i : Int)) (by rw [rd_nat o i (by omega)]; exact List.getElem_mem _)
  have hd : o.drop i = rd o (i : Int) :: o.drop (i + 1) := by
   rw [rd_nat o i (by omega)]
   exact List.drop_eq_getElem_cons (by omega)
  have q : ((i + 1 : Nat) : Int) = (i : Int) + 1 := by omega
  rw [impl_HearSpans.l1, if_pos (by omega), if_pos (by omega), if_pos (by omega), wrap_id (x := rd o (i : Int) + 3) (by omega) (by omega), wrap_id (x := (i : Int) + 1) (by omega) (by omega), hd, List.filter_cons, ← q]
  by_cases hc : top ≥ rd o (i : Int) + 3
  ·rw [if_pos hc, if_pos (by omega), if_pos (by simpa using hc), ih k (i + 1) (x11 ++ [rd o (i : Int)]) (by omega) (by omega) (by simp only [List.length_append, List.length_cons, List.length_nil]; omega)]
   simp only [List.append_assoc, List.cons_append, List.nil_append]
  ·rw [if_neg hc, if_neg (by simpa using hc)]
   exact ih k (i + 1) x11 (by omega) (by omega) (by omega)
def keepP (J : List Sp) (t : List Int) : List Int := t.filter fun x => !J.any (inSpan x)
def newI (a : Nat) (J : List Sp) (t : List Int) : List Int := if (J.length : Int) > 0 then (opn J (keepP J t) a 0).filter (fun n => decide (topJ J ≥ n + 3)) else []
theorem impl_fresh (n : Nat) (hn60 : n ≤ 60) (h J : List Sp) (t : List Int) (hJ : J.length ≤ 1048576) (hh : h.length ≤ 1048576) (ht : t.length ≤ 1048576) : ∀ (d k : Nat) (i : Int) (x : List Int), i + d = (n : Int) → 0 ≤ i → d + n + J.length + t.length + 70 < k → x.length ≤ 100 + i.toNat →
  impl_HearSpans.l0 k x [] (n : Int) i (n : Int) h t J = some ((n : Int), J, srtI (keepP J t ++ newI n J t), x ++ rng (frP J h) d i, newI n J t, true) := by
 intro d
 have hkl : (keepP J t).length ≤ t.length := List.length_filter_le _ _
 induction d with
 | zero =>
  intro k i x hi h0 hk hx
  obtain ⟨k, rfl⟩ := round (d := 0) (k := k) (by omega)
  rw [impl_HearSpans.l0, if_neg (by omega), rng, List.append_nil]
  unfold slices_Clone_int_int.f slices_DeleteFunc_int_int.f
  rw [if_pos (by omega), Option.bind_some, if_pos (by omega), Option.bind_some]
  by_cases hj : (J.length : Int) > 0
  ·rw [if_pos hj, if_pos (by rw [wrap_id (by omega) (by omega)]; omega), if_pos (by rw [wrap_id (by omega) (by omega)]; omega)]
   unfold impl_Span_82.f impl_Sender_open.f
   have ho := impl_open_l0 (n : Int) J (keepP J t) hJ (by omega) (by omega) n k 0 [] (by omega) (by omega) (by omega) (by simp)
   rw [show impl_Sender_open.l0 k [] (n : Int) 0 (n : Int) J (t.filter fun x => !J.any (inSpan x)) = _ from ho, Option.bind_some, Option.bind_some, List.nil_append]
   have hl := opn_len J (keepP J t) n 0
   have := impl_new (n : Int) J (keepP J t) (opn J (keepP J t) n 0) x (topJ J) (by omega) (by omega) (fun m hm => by
    rw [opn_rng] at hm
    have := (mem_rng _ m n 0).1 hm
    omega) (opn J (keepP J t) n 0).length k 0 [] (by omega) (by omega) (by simp)
   rw [List.drop_zero, List.nil_append] at this
   rw [show newI n J t = (opn J (keepP J t) n 0).filter (fun n => decide (topJ J ≥ n + 3)) from if_pos hj, ← this]
   rw [show topJ J = wrap64 ((rd_T59 J (wrap64 ((J.length : Int) - 1))).f1 - 1) from if_pos hj]
   rfl
  ·rw [if_neg hj, show newI n J t = [] from if_neg hj, if_pos (by simp only [List.length_nil]; exact Nat.lt_of_le_of_lt (show _ ≤ 1048576 from by have : (t.filter fun x => !J.any (inSpan x)).length ≤ t.length := hkl; omega) (by omega))]
   unfold slices_Sort_int_int.f
   rw [if_pos (by rw [List.append_nil]; have : (t.filter fun x => !J.any (inSpan x)).length ≤ t.length := hkl; omega), Option.bind_some]
   rfl
 | succ d ih =>
  intro k i x hi h0 hk hx
  obtain ⟨k, rfl⟩ := round (d := 0) (k := k) (by omega)
  rw [impl_HearSpans.l0, if_pos (by omega), wrap_id (x := i + 1) (by omega) (by omega), rng]
  unfold impl_has.f
  rw [Option.bind_some]
  cases hb : J.any (inSpan i) with
  | false =>
   rw [if_neg (by simp), show frP J h i = false from by simp [frP, hb], if_neg (by simp)]
   exact ih k (i + 1) x (by omega) (by omega) (by omega) (by omega)
  | true =>
   rw [if_pos rfl, Option.bind_some]
   cases hc : h.any (inSpan i) with
   | true =>
    rw [if_pos rfl, show frP J h i = false from by simp only [frP, hb, hc]; rfl, if_neg (by simp)]
    exact ih k (i + 1) x (by omega) (by omega) (by omega) (by omega)
   | false =>
    rw [if_neg (by simp), show frP J h i = true from by simp only [frP, hb, hc]; rfl, if_pos rfl, if_pos (by omega), ih k (i + 1) (x ++ [i]) (by omega) (by omega) (by omega) (by simp only [List.length_append, List.length_cons, List.length_nil]; omega), List.append_assoc]
    rfl

end Go.Proofs.Ytligcknlmbgbiaa.Pure

namespace Go.Proofs.Ytligcknlmbgbiaa.Pure
open Go.RowKit Go.Proofs.Ytligcknlmbgbiaa.P Go.Proofs.YtligcknlmbgbiaaW.PrintWords Go.Proofs.YtligcknlmbgbiaaW.PrintLast Go.Proofs.Ytligcknlmbgbiaa.Opn
set_option linter.unusedVariables false
set_option linter.unusedSimpArgs false

theorem ris_fact (m : Int) : ∀ (l : List Int) (p : Option Int), risOk m p l = true → l.Pairwise (· < ·) ∧ ∀ x, x ∈ l → 0 ≤ x ∧ x ≤ m ∧ ∀ q, p = some q → q < x := by
 intro l
 induction l with
 | nil => intro p _; exact ⟨List.Pairwise.nil, fun x hx => by cases hx⟩
 | cons y l ih =>
  intro p h
  rw [risOk] at h
  simp only [Bool.and_eq_true, decide_eq_true_eq] at h
  obtain ⟨h1, h2, h3⟩ := h
  obtain ⟨i1, i2⟩ := ih (some y) h3
  have hy : ∀ q, p = some q → q < y := by
   rintro q rfl
   simpa [aft] using h2
  refine ⟨List.pairwise_cons.2 ⟨fun x hx => (i2 x hx).2.2 y rfl, i1⟩, fun x hx => ?_⟩
  rcases List.mem_cons.1 hx with rfl | hx
  ·exact ⟨h1.1, h1.2, hy⟩
  ·refine ⟨(i2 x hx).1, (i2 x hx).2.1, fun q hq => ?_⟩
   have := hy q hq
   have := (i2 x hx).2.2 y rfl
   omega
theorem sp_fact : ∀ (l : List Sp) (p : Option Int), spOk p l = true → Nrm l ∧ ∀ x, x ∈ l → 0 ≤ x.f0 ∧ x.f0 < x.f1 ∧ x.f1 ≤ 1000000 ∧ ∀ q, p = some q → q < x.f0 := by
 intro l
 induction l with
 | nil => intro p _; exact ⟨trivial, fun x hx => by cases hx⟩
 | cons y l ih =>
  intro p h
  rw [spOk] at h
  simp only [isSp, Bool.and_eq_true, decide_eq_true_eq] at h
  obtain ⟨h1, h2, h3⟩ := h
  obtain ⟨i1, i2⟩ := ih (some y.f1) h3
  have hy : ∀ q, p = some q → q < y.f0 := by
   rintro q rfl
   simpa [aft] using h2
  refine ⟨⟨h1.2.1, fun x hx => (i2 x hx).2.2.2 y.f1 rfl, i1⟩, fun x hx => ?_⟩
  rcases List.mem_cons.1 hx with rfl | hx
  ·exact ⟨h1.1, h1.2.1, h1.2.2, hy⟩
  ·refine ⟨(i2 x hx).1, (i2 x hx).2.1, (i2 x hx).2.2.1, fun q hq => ?_⟩
   have := hy q hq
   have := (i2 x hx).2.2.2 y.f1 rfl
   omega
theorem new_rng (n : Nat) (J : List Sp) (t : List Int) : newI n J t = rng (npP J t (topJ J)) n 0 := by
 unfold newI
 by_cases hj : (J.length : Int) > 0
 ·rw [if_pos hj, opn_rng, rng_filter]
  refine rng_congr _ _ n 0 (fun m _ _ => ?_)
  unfold npP keepP
  cases hb : J.any (inSpan m) with
  | true => simp
  | false =>
   have : decide (m ∈ t.filter fun x => !J.any (inSpan x)) = decide (m ∈ t) := by
    congr 1
    rw [List.mem_filter, hb]
    simp
   rw [this]
   simp
 ·rw [if_neg hj]
  symm
  refine List.eq_nil_iff_forall_not_mem.2 (fun m hm => ?_)
  have h := (mem_rng _ m n 0).1 hm
  have h3 := h.2.2
  unfold npP at h3
  rw [show topJ J = -1 from if_neg hj] at h3
  simp only [Bool.and_eq_true, decide_eq_true_eq] at h3
  omega
theorem lost_rng (n : Nat) (hn : n ≤ 60) (J : List Sp) (t : List Int) (ht : risOk (wrap64 ((n : Int) - 1)) none t = true) : srtI (keepP J t ++ newI n J t) = rng (lpP J t (topJ J)) n 0 := by
 rw [new_rng, wrap_id (by omega) (by omega)] at *
 obtain ⟨t1, t2⟩ := ris_fact _ t none ht
 have hs := sort_ok (keepP J t ++ rng (npP J t (topJ J)) n 0)
 have hnd : (keepP J t ++ rng (npP J t (topJ J)) n 0).Nodup := by
  refine List.pairwise_append.2 ⟨(nodup_of_asc t1).filter _, nodup_of_asc (rng_asc _ _ _), fun x hx y hy e => ?_⟩
  subst e
  have h1 : x ∈ t := (List.mem_filter.1 hx).1
  have h3 := ((mem_rng _ x n 0).1 hy).2.2
  unfold npP at h3
  simp [h1] at h3
 refine asc_uniq _ _ (asc_of_le hs.1 ((List.mergeSort_perm _ _).nodup_iff.2 hnd)) (rng_asc _ _ _) (fun m => ?_)
 refine (hs.2 m).trans ?_
 rw [List.mem_append, mem_rng, mem_rng]
 unfold keepP npP lpP
 rw [List.mem_filter]
 constructor
 ·rintro (⟨h1, h2⟩ | ⟨h1, h2, h3⟩)
  ·have := t2 m h1
   refine ⟨by omega, by omega, ?_⟩
   rw [h2]
   simp [h1]
  ·refine ⟨h1, h2, ?_⟩
   simp only [Bool.and_eq_true] at h3
   rw [h3.1, h3.2.2]
   simp
 ·rintro ⟨h1, h2, h3⟩
  simp only [Bool.and_eq_true, Bool.or_eq_true, decide_eq_true_eq] at h3
  by_cases hm : m ∈ t
  ·exact .inl ⟨hm, h3.1⟩
  ·refine .inr ⟨h1, h2, ?_⟩
   rcases h3.2 with h | h
   ·exact absurd h hm
   ·rw [h3.1]
    simp [hm, h]
theorem join_l0 (l : List Sp) (hl : l.length ≤ 1000) : ∀ (d k i : Nat) (acc : List Sp), i + d = l.length → d + 3 * l.length + 3100 < k → acc.length ≤ 20 + i → spec_l2Join.l0 k acc l (l.length : Int) (i : Int) = some (sumS acc (l.drop i)) := by
 intro d
 induction d with
 | zero =>
  intro k i acc hi hk ha
  obtain ⟨k, rfl⟩ := round (d := 0) (k := k) (by omega)
  rw [spec_l2Join.l0, if_neg (by omega), List.drop_of_length_le (by omega)]
  rfl
 | succ d ih =>
  intro k i acc hi hk ha
  obtain ⟨k, rfl⟩ := round (d := 0) (k := k) (by omega)
  have q : ((i + 1 : Nat) : Int) = (i : Int) + 1 := by omega
  have hal := add_len ⟨(rd_T59 l (i : Int)).f0, (rd_T59 l (i : Int)).f1⟩ acc
  rw [spec_l2Join.l0, if_pos (by omega), if_pos (by omega), if_pos (by omega), l2Add acc (by omega) _ _ k (by omega), Option.bind_some, wrap_id (x := (i : Int) + 1) (by omega) (by omega), ← q]
  rw [ih k (i + 1) _ (by omega) (by omega) (by omega), dropJ l i (by omega)]
  rfl
theorem hear_join (h l : List Sp) (hh : goodSp h = true) (hl : goodSp l = true) (k : Nat) (hk : 5000 < k) : spec_l2Join.f k h l = some (sumS h l) ∧ impl_JoinSpans.f k h l = some (if ((sumS h l).length : Int) > 20 then ([], false) else (sumS h l, true)) := by
 obtain ⟨k, rfl⟩ := round hk
 have hh' := hh
 have hl' := hl
 unfold goodSp at hh' hl'
 simp only [Bool.and_eq_true, decide_eq_true_eq] at hh' hl'
 obtain ⟨h1, h2⟩ := sp_fact h none hh'.1
 obtain ⟨l1, l2⟩ := sp_fact l none hl'.1
 constructor
 ·unfold spec_l2Join.f
  rw [Option.bind_some, if_pos (by simp only [List.length_nil]; omega), List.nil_append]
  exact join_l0 l (by omega) l.length (k + 1) 0 h (by omega) (by omega) (by omega)
 ·unfold impl_JoinSpans.f
  rw [impl_goodSp h (by omega) (k + 1) (by omega), impl_goodSp l (by omega) (k + 1) (by omega), hh, hl]
  simp only [Option.bind_some, if_true, Bool.not_true]
  rw [impl_JoinSpans.j0, if_neg (by simp)]
  unfold impl_Span_68.f
  have e : ([h, l] : List (List Sp)).flatten = h ++ l := by simp
  rw [e, if_pos (by rw [List.length_append]; omega), Option.bind_some, joined_sum (h ++ l) (by rw [List.length_append]; omega) (fun x hx => by
   rcases List.mem_append.1 hx with hx | hx
   ·have := h2 x hx
    omega
   ·have := l2 x hx
    omega) k (by rw [List.length_append]; omega), Option.bind_some, sum_append h l h1 (fun x hx => (l2 x hx).2.1)]
  unfold impl_few.f
  split <;> rfl
def hearQ (n : Nat) (h : List Sp) (t : List Int) (J : List Sp) : Int × List Sp × List Int × List Int × List Int × Bool := ((n : Int), J, rng (lpP J t (topJ J)) n 0, rng (frP J h) n 0, rng (npP J t (topJ J)) n 0, true)
theorem hear_spec (n : Nat) (hn : n ≤ 60) (h l : List Sp) (t : List Int) (hh : goodSp h = true) (hl : goodSp l = true) (ht : t.length ≤ 1048576) (k : Nat) (hk : t.length + 5500 < k) : spec_l11Hear.f k (n : Int) h t l = some ((n : Int), sumS h l, rng (lpP (sumS h l) t (topJ (sumS h l))) n 0, rng (frP (sumS h l) h) n 0, rng (npP (sumS h l) t (topJ (sumS h l))) n 0, decide (((sumS h l).length : Int) ≤ 20)) := by
 unfold spec_l11Hear.f
 have hh' := hh
 have hl' := hl
 unfold goodSp at hh' hl'
 simp only [Bool.and_eq_true, decide_eq_true_eq] at hh' hl'
 have hs := sum_len l h
 rw [(hear_join h l hh hl k (by omega)).1, Option.bind_some, spec_fresh (n : Int) h (sumS h l) t (by omega) (by omega) ht n rfl (by omega) n k 0 [] (by omega) (by omega) (by omega) (by simp)]
 rfl
end Go.Proofs.Ytligcknlmbgbiaa.Pure

namespace Go.Proofs.Ytligcknlmbgbiaa.Pure
open Go.RowKit Go.Proofs.Ytligcknlmbgbiaa.P Go.Proofs.YtligcknlmbgbiaaW.PrintWords Go.Proofs.YtligcknlmbgbiaaW.PrintLast Go.Proofs.Ytligcknlmbgbiaa.Opn
set_option linter.unusedVariables false
set_option linter.unusedSimpArgs false

theorem order_l0 (l : List Int) (m : Int) (hm : 0 ≤ m) (hm2 : m ≤ 1000) (hn : l.length ≤ 1048576) : ∀ (d k i : Nat), i + d = l.length → d + l.length < k → ∃ b, spec_l11Order.l0 k l m l (l.length : Int) (i : Int) = some b ∧ impl_isComing.l0 k l m l (l.length : Int) (i : Int) = some b ∧ (b = true → ∀ j : Nat, i ≤ j → j < l.length → 0 ≤ rd l (j : Int) ∧ rd l (j : Int) ≤ m - 1 ∧ rd l (j : Int) ∉ l.take j) := by
 intro d
 induction d with
 | zero =>
  intro k i h hk
  obtain ⟨k, rfl⟩ := round hk
  refine ⟨true, ?_, ?_, fun _ j h1 h2 => by omega⟩
  ·simp only [spec_l11Order.l0]
   rw [if_neg (by omega)]
  ·simp only [impl_isComing.l0]
   rw [if_neg (by omega)]
 | succ d ih =>
  intro k i h hk
  obtain ⟨k, rfl⟩ := round hk
  simp only [spec_l11Order.l0, impl_isComing.l0, spec_in, impl_in_, Option.bind_some, Int.toNat_natCast, wrap_id (x := m - 1) (by omega) (by omega)]
  simp only [if_pos (show (i : Int) < (l.length : Int) by omega), if_pos (show (0 : Int) ≤ (i : Int) by omega), if_pos (show (i : Int) ≤ (l.length : Int) by omega)]
  by_cases hc : 0 ≤ rd l (i : Int) ∧ rd l (i : Int) ≤ m - 1
  ·simp only [hc, and_self, decide_true, if_true]
   have ht : (l.take i).length ≤ 1048576 := by rw [List.length_take]; omega
   have hk' : (l.take i).length < k := by rw [List.length_take]; omega
   rw [l1Has _ _ ht k hk', containsI _ _ ht k hk', Option.bind_some, Option.bind_some]
   by_cases hh : rd l (i : Int) ∈ l.take i
   ·simp only [hh, decide_true, if_true]
    exact ⟨false, rfl, rfl, fun h => by cases h⟩
   ·simp only [hh, decide_false, Bool.false_eq_true, if_false]
    rw [wrap_id (x := (i : Int) + 1) (by omega) (by omega)]
    obtain ⟨b, h1, h2, h3⟩ := ih k (i + 1) (by omega) (by omega)
    refine ⟨b, by simpa using h1, by simpa using h2, fun hb j hj hl => ?_⟩
    by_cases e : j = i
    ·subst e
     exact ⟨hc.1, hc.2, hh⟩
    ·exact h3 hb j (by omega) hl
  ·simp only [hc, decide_false, Bool.false_eq_true, if_false]
   exact ⟨false, rfl, rfl, fun h => by cases h⟩
theorem order (l : List Int) (m : Int) (hm : 0 ≤ m) (hm2 : m ≤ 1000) (hn : l.length ≤ 1048576) (k k' : Nat) (hk : 2 * l.length < k) (hk' : 2 * l.length < k') : ∃ b, spec_l11Order.f k l m = some b ∧ impl_isComing.f k' l m = some b ∧ (b = true → ∀ j : Nat, j < l.length → 0 ≤ rd l (j : Int) ∧ rd l (j : Int) ≤ m - 1 ∧ rd l (j : Int) ∉ l.take j) := by
 obtain ⟨b, h1, _, h3⟩ := order_l0 l m hm hm2 hn l.length k 0 (by omega) (by omega)
 obtain ⟨b', h4, h5, _⟩ := order_l0 l m hm hm2 hn l.length k' 0 (by omega) (by omega)
 have hmono : ∀ n k r, spec_l11Order.l0 k l m l (l.length : Int) (0 : Nat) = some r → spec_l11Order.l0 (k + n) l m l (l.length : Int) (0 : Nat) = some r := by
  intro n
  induction n with
  | zero => intro k r h; exact h
  | succ n ih => intro k r h; exact spec_l11Order.mono_l _ _ _ _ _ _ r (ih k r h)
 have e : b = b' := by
  have e1 := hmono k' k b h1
  have e2 := hmono k k' b' h4
  rw [Nat.add_comm] at e2
  rw [e1] at e2
  exact Option.some.inj e2
 subst e
 exact ⟨b, by simpa [spec_l11Order.f] using h1, by simpa [impl_isComing.f] using h5, fun hb j hj => h3 hb j (by omega) hj⟩

end Go.Proofs.Ytligcknlmbgbiaa.Pure

namespace Go.Proofs.Ytligcknlmbgbiaa.Pure
open Go.RowKit Go.Proofs.Ytligcknlmbgbiaa.P Go.Proofs.YtligcknlmbgbiaaW.PrintWords Go.Proofs.YtligcknlmbgbiaaW.PrintLast Go.Proofs.Ytligcknlmbgbiaa.Opn
set_option linter.unusedVariables false
set_option linter.unusedSimpArgs false

theorem hear_impl (n : Nat) (hn : n ≤ 60) (h l : List Sp) (t : List Int) (hg : goodSe (n : Int) h t = true) (hb : belowSp l (n : Int) = true) (hh : h.length ≤ 1048576) (hl : l.length ≤ 1048576) (ht : t.length ≤ 1048576) (k : Nat) (hk : h.length + t.length + l.length + 6000 < k) : impl_HearSpans.f k (n : Int) h t l = some (if ((sumS h l).length : Int) ≤ 20 then hearQ n h t (sumS h l) else (0, [], [], [], [], false)) := by
 have hg' := hg
 unfold goodSe belowSp at hg'
 simp only [Bool.and_eq_true, decide_eq_true_eq] at hg'
 obtain ⟨ha, ⟨hgh, _⟩, hr, _⟩ := hg'
 have hb' := hb
 unfold belowSp at hb'
 simp only [Bool.and_eq_true] at hb'
 obtain ⟨k, rfl⟩ := round hk
 unfold impl_HearSpans.f
 rw [impl_goodSe _ h t hh ht (k + 1) (by omega), hg, impl_below l _ hl (k + 1) (by omega), hb]
 simp only [Option.bind_some, if_true, Bool.not_true]
 rw [impl_HearSpans.j0, if_neg (by simp), (hear_join h l hgh hb'.1 k (by omega)).2]
 by_cases hJ : ((sumS h l).length : Int) ≤ 20
 ·rw [if_neg (by omega), if_pos hJ]
  simp only [Option.bind_some, if_true]
  rw [impl_fresh n hn h (sumS h l) t (by omega) hh ht n k 0 [] (by omega) (by omega) (by omega) (by simp), lost_rng n hn _ t hr, new_rng]
  rfl
 ·rw [if_pos (by omega), if_neg hJ]
  simp only [Option.bind_some]
  rw [if_neg (by simp)]
theorem nrm_spOk : ∀ (l : List Sp) (p : Option Int), Nrm l → (∀ x, x ∈ l → 0 ≤ x.f0 ∧ x.f1 ≤ 1000000) → (∀ q, p = some q → ∀ x, x ∈ l → q < x.f0) → spOk p l = true := by
 intro l
 induction l with
 | nil => intro p _ _ _; rfl
 | cons y l ih =>
  intro p h hb hp
  obtain ⟨h1, h2, h3⟩ := h
  rw [spOk, ih (some y.f1) h3 (fun x hx => hb x (List.mem_cons_of_mem _ hx)) (fun q hq x hx => by cases hq; exact h2 x hx)]
  have hy := hb y List.mem_cons_self
  have ha : aft p y.f0 = true := by
   unfold aft
   cases p with
   | none => rfl
   | some q => simpa using hp q rfl y List.mem_cons_self
  rw [ha]
  simp [isSp, hy, h1]
theorem asc_ris (m : Int) : ∀ (l : List Int) (p : Option Int), l.Pairwise (· < ·) → (∀ x, x ∈ l → 0 ≤ x ∧ x ≤ m) → (∀ q, p = some q → ∀ x, x ∈ l → q < x) → risOk m p l = true := by
 intro l
 induction l with
 | nil => intro p _ _ _; rfl
 | cons y l ih =>
  intro p h hb hp
  obtain ⟨h1, h2⟩ := List.pairwise_cons.1 h
  rw [risOk, ih (some y) h2 (fun x hx => hb x (List.mem_cons_of_mem _ hx)) (fun q hq x hx => by cases hq; exact h1 x hx)]
  have hy := hb y List.mem_cons_self
  have ha : aft p y = true := by
   unfold aft
   cases p with
   | none => rfl
   | some q => simpa using hp q rfl y List.mem_cons_self
  rw [ha]
  simp [hy]
structure InvP (n : Nat) (J : List Sp) (t : List Int) : Prop where
 nrm : Nrm J
 len : J.length ≤ 20
 bd : ∀ x, x ∈ J → 0 ≤ x.f0 ∧ x.f1 ≤ (n : Int)
 asc : t.Pairwise (· < ·)
 low : ∀ x, x ∈ t → 0 ≤ x ∧ x < (n : Int) ∧ J.any (inSpan x) = false
theorem goodSp_of {n : Nat} (hn : n ≤ 60) {J : List Sp} (h1 : Nrm J) (h2 : J.length ≤ 20) (h3 : ∀ x, x ∈ J → 0 ≤ x.f0 ∧ x.f1 ≤ (n : Int)) : goodSp J = true ∧ belowSp J (n : Int) = true := by
 have hg : goodSp J = true := by
  unfold goodSp
  rw [nrm_spOk J none h1 (fun x hx => by have := h3 x hx; omega) (fun q hq => by cases hq)]
  simp only [Bool.true_and, decide_eq_true_eq]
  omega
 refine ⟨hg, ?_⟩
 unfold belowSp
 rw [hg, Bool.true_and, Bool.or_eq_true, decide_eq_true_eq, decide_eq_true_eq]
 by_cases hz : J.length = 0
 ·exact .inl hz
 ·right
  have e : ((J.length : Int) - 1) = ((J.length - 1 : Nat) : Int) := by omega
  rw [e, rdJ J (J.length - 1) (by omega)]
  exact (h3 _ (List.getElem_mem _)).2
theorem InvP.good {n : Nat} (hn : n ≤ 60) {J : List Sp} {t : List Int} (h : InvP n J t) : goodSe (n : Int) J t = true ∧ t.length ≤ 60 := by
 obtain ⟨g1, g2⟩ := goodSp_of hn h.nrm h.len h.bd
 refine ⟨?_, ?_⟩
 ·unfold goodSe
  rw [g2, asc_ris (wrap64 ((n : Int) - 1)) t none h.asc (fun x hx => by have := h.low x hx; rw [wrap_id (by omega) (by omega)]; omega) (fun q hq => by cases hq)]
  have : t.all (fun m => !J.any (inSpan m)) = true := List.all_eq_true.2 (fun x hx => by rw [(h.low x hx).2.2]; rfl)
  rw [this]
  simp only [Bool.and_true, decide_eq_true_eq]
  omega
 ·have e : t = rng (fun m => decide (m ∈ t)) n 0 := by
   refine asc_uniq _ _ h.asc (rng_asc _ _ _) (fun m => ?_)
   rw [mem_rng]
   constructor
   ·intro hm
    have := h.low m hm
    exact ⟨by omega, by omega, by simpa using hm⟩
   ·rintro ⟨_, _, h3⟩
    simpa using h3
  rw [e]
  exact Nat.le_trans (rng_len _ _ _) hn
theorem InvP.step {n : Nat} {J : List Sp} {t : List Int} (h : InvP n J t) (m : Int) (h0 : 0 ≤ m) (h1 : m < (n : Int)) (top : Int) (hl : (sumS J [⟨m, m + 1⟩]).length ≤ 20) : InvP n (sumS J [⟨m, m + 1⟩]) (rng (lpP (sumS J [⟨m, m + 1⟩]) t top) n 0) := by
 obtain ⟨s1, s2⟩ := sum_ok [⟨m, m + 1⟩] J (fun x hx => by
  rw [List.mem_singleton.1 hx]
  show m < m + 1
  omega) h.nrm
 have hcov : ∀ c, Cov c (sumS J [⟨m, m + 1⟩]) → 0 ≤ c ∧ c < (n : Int) := by
  intro c hc
  rcases (s2 c).1 hc with ⟨y, hy, hi⟩ | ⟨y, hy, hi⟩
  ·have := h.bd y hy
   unfold InS at hi
   omega
  ·rw [List.mem_singleton.1 hy] at hi
   unfold InS at hi
   dsimp only at hi
   omega
 refine ⟨s1, hl, fun x hx => ?_, rng_asc _ _ _, fun x hx => ?_⟩
 ·have hv := nrm_valid _ s1 x hx
  have c1 := hcov x.f0 ⟨x, hx, by unfold InS; omega⟩
  have c2 := hcov (x.f1 - 1) ⟨x, hx, by unfold InS; omega⟩
  omega
 ·obtain ⟨x1, x2, x3⟩ := (mem_rng _ x n 0).1 hx
  unfold lpP at x3
  simp only [Bool.and_eq_true] at x3
  refine ⟨x1, by omega, by simpa using x3.1⟩
def setAll (e : List Bool) (lo : List Int) : List Bool := lo.foldl (fun e m => e.set m.toNat true) e
theorem setAll_len : ∀ (lo : List Int) (e : List Bool), (setAll e lo).length = e.length := by
 intro lo
 induction lo with
 | nil => intro e; rfl
 | cons m lo ih =>
  intro e
  show (setAll (e.set m.toNat true) lo).length = e.length
  rw [ih]
  simp
theorem setAll_rd : ∀ (lo : List Int) (e : List Bool), (∀ x, x ∈ lo → 0 ≤ x ∧ x < (e.length : Int)) → ∀ c : Int, 0 ≤ c → c < (e.length : Int) → (rdOf false (setAll e lo) c = true ↔ rdOf false e c = true ∨ c ∈ lo) := by
 intro lo
 induction lo with
 | nil => intro e _ c _ _; simp [setAll]
 | cons m lo ih =>
  intro e hb c h0 h1
  show rdOf false (setAll (e.set m.toNat true) lo) c = true ↔ _
  have hm := hb m List.mem_cons_self
  rw [ih (e.set m.toNat true) (fun x hx => by rw [List.length_set]; exact hb x (List.mem_cons_of_mem _ hx)) c h0 (by rw [List.length_set]; exact h1), List.mem_cons]
  have e1 : rdOf false (e.set m.toNat true) c = true ↔ rdOf false e c = true ∨ c = m := by
   unfold rdOf
   rw [List.getD_eq_getElem?_getD, List.getD_eq_getElem?_getD]
   by_cases hc : c = m
   ·subst hc
    rw [List.getElem?_set_self (by omega)]
    simp
   ·rw [List.getElem?_set_ne (by omega)]
    simp [hc]
  rw [e1, or_assoc]
theorem play_l1 (n : Nat) (l : List Int) (i : Int) (J : List Sp) (t lo : List Int) (hlo : lo.length ≤ 1000) (s : Nat) : ∀ (d j : Nat) (e : List Bool), j + d = lo.length → (∀ x, x ∈ lo → 0 ≤ x ∧ x < (e.length : Int)) → spec_PlayHeard.l1 (s + (d + 1)) e l (l.length : Int) i lo (lo.length : Int) (j : Int) (n : Int) J t = spec_PlayHeard.l0 s (setAll e (lo.drop j)) l (l.length : Int) (wrap64 (i + 1)) (n : Int) J t := by
 intro d
 induction d with
 | zero =>
  intro j e hj hb
  rw [show s + (0 + 1) = s + 1 from rfl, spec_PlayHeard.l1, if_neg (by omega), List.drop_of_length_le (by omega)]
  rfl
 | succ d ih =>
  intro j e hj hb
  have hm := hb (rd lo (j : Int)) (by rw [rd_nat lo j (by omega)]; exact List.getElem_mem _)
  have q : ((j + 1 : Nat) : Int) = (j : Int) + 1 := by omega
  rw [show s + (d + 1 + 1) = (s + (d + 1)) + 1 from rfl, spec_PlayHeard.l1, if_pos (by omega), if_pos (by omega), if_pos (by omega), if_pos (by omega), if_pos (by omega), wrap_id (x := (j : Int) + 1) (by omega) (by omega), ← q, ih (j + 1) _ (by omega) (fun x hx => by rw [List.length_set]; exact hb x hx), drop_rd lo j (by omega)]
  rfl
theorem play_l2 (e : List Bool) (he : e.length ≤ 60) : ∀ (d k : Nat) (i : Int) (x : List Int), i + d = (e.length : Int) → 0 ≤ i → d < k → x.length ≤ 100 + i.toNat → spec_PlayHeard.l2 k x e (e.length : Int) i = some (x ++ rng (fun c => rdOf false e c) d i, true) := by
 intro d
 induction d with
 | zero =>
  intro k i x hi h0 hk hx
  obtain ⟨k, rfl⟩ := round (d := 0) (k := k) (by omega)
  rw [spec_PlayHeard.l2, if_neg (by omega), rng, List.append_nil]
 | succ d ih =>
  intro k i x hi h0 hk hx
  obtain ⟨k, rfl⟩ := round (d := 0) (k := k) (by omega)
  rw [spec_PlayHeard.l2, if_pos (by omega), if_pos (by omega), if_pos (by omega), wrap_id (x := i + 1) (by omega) (by omega), rng]
  cases hc : rdOf false e i with
  | true =>
   rw [if_pos rfl, if_pos (by omega), if_pos rfl, ih k (i + 1) (x ++ [i]) (by omega) (by omega) (by omega) (by simp only [List.length_append, List.length_cons, List.length_nil]; omega), List.append_assoc]
   rfl
  | false =>
   rw [if_neg (by simp), if_neg (by simp)]
   exact ih k (i + 1) x (by omega) (by omega) (by omega) (by omega)
theorem play_l0 (n : Nat) (hn : n ≤ 60) (l : List Int) (hl : l.length ≤ 1048576) (hb : ∀ j : Nat, j < l.length → 0 ≤ rd l (j : Int) ∧ rd l (j : Int) < (n : Int)) : ∀ (d k k2 i : Nat) (J : List Sp) (t : List Int) (e : List Bool) (out : List Int), i + d = l.length → InvP n J t → e.length = n → (∀ c : Int, 0 ≤ c → c < (n : Int) → (rdOf false e c = true ↔ c ∈ out)) → (∀ c, c ∈ out → 0 ≤ c ∧ c < (n : Int)) → out.length ≤ 60 * i → 70 * d + 7000 < k → d + 7000 < k2 →
  ∃ r b, spec_PlayHeard.l0 k e l (l.length : Int) (i : Int) (n : Int) J t = some (r, b) ∧ impl_PlayHeard.l0 k2 out l (l.length : Int) (i : Int) (n : Int) J t = some (r, b) ∧ r.length ≤ 60 := by
 intro d
 induction d with
 | zero =>
  intro k k2 i J t e out hi hI he hc ho hlen hk hk2
  obtain ⟨k, rfl⟩ := round (d := 0) (k := k) (by omega)
  obtain ⟨k2, rfl⟩ := round (d := 0) (k := k2) (by omega)
  refine ⟨rng (fun c => rdOf false e c) n 0, true, ?_, ?_, Nat.le_trans (rng_len _ _ _) hn⟩
  ·rw [spec_PlayHeard.l0, if_neg (by omega), play_l2 e (by omega) n k 0 [] (by omega) (by omega) (by omega) (by simp)]
   rfl
  ·rw [impl_PlayHeard.l0, if_neg (by omega)]
   unfold slices_Sort_int_int.f slices_Compact_int_int.f
   have hs := sort_ok out
   have hp := (List.mergeSort_perm out fun x y => decide (x ≤ y)).length_eq
   rw [if_pos (by omega), Option.bind_some, if_pos (by omega), Option.bind_some]
   have hq := compact_ok _ hs.1
   rw [asc_uniq _ _ hq.1 (rng_asc (fun c => rdOf false e c) n 0) (fun m => ?_)]
   rw [hq.2 m, hs.2 m, mem_rng]
   constructor
   ·intro hm
    have hom := ho m hm
    exact ⟨by omega, by omega, (hc m (by omega) (by omega)).2 hm⟩
   ·rintro ⟨m1, m2, m3⟩
    exact (hc m (by omega) (by omega)).1 m3
 | succ d ih =>
  intro k k2 i J t e out hi hI he hc ho hlen hk hk2
  obtain ⟨k, rfl⟩ := round (d := 0) (k := k) (by omega)
  obtain ⟨k2, rfl⟩ := round (d := 0) (k := k2) (by omega)
  have hm := hb i (by omega)
  have q : ((i + 1 : Nat) : Int) = (i : Int) + 1 := by omega
  obtain ⟨hgs, htl⟩ := hI.good hn
  obtain ⟨gJ, _⟩ := goodSp_of hn hI.nrm hI.len hI.bd
  obtain ⟨gX, gB⟩ := goodSp_of hn (J := [(⟨rd l (i : Int), rd l (i : Int) + 1⟩ : Sp)]) ⟨(by show rd l (i : Int) < rd l (i : Int) + 1; omega), (fun y hy => by cases hy), trivial⟩ (by simp) (fun x hx => by
   rw [List.mem_singleton.1 hx]
   show 0 ≤ rd l (i : Int) ∧ rd l (i : Int) + 1 ≤ (n : Int)
   omega)
  have hlJ := hI.len
  rw [spec_PlayHeard.l0, if_pos (by omega), if_pos (by omega), if_pos (by omega), impl_PlayHeard.l0, if_pos (by omega), if_pos (by omega), if_pos (by omega), wrap_id (x := rd l (i : Int) + 1) (by omega) (by omega), wrap_id (x := (i : Int) + 1) (by omega) (by omega), hear_spec n hn J _ t gJ gX (by omega) k (by omega), hear_impl n hn J _ t hgs gB (by omega) (by simp) (by omega) k2 (by simp only [List.length_cons, List.length_nil]; omega), Option.bind_some, Option.bind_some]
  dsimp only
  have hst := hI.step (rd l (i : Int)) hm.1 hm.2 (topJ (sumS J [⟨rd l (i : Int), rd l (i : Int) + 1⟩]))
  generalize hJ2 : sumS J [(⟨rd l (i : Int), rd l (i : Int) + 1⟩ : Sp)] = J2 at hst ⊢
  by_cases h20 : (J2.length : Int) ≤ 20
  ·rw [if_pos (by simpa using h20), if_pos h20]
   unfold hearQ
   dsimp only
   rw [if_pos rfl]
   have hlo := rng_len (npP J2 t (topJ J2)) n 0
   have hmem := fun c => mem_rng (npP J2 t (topJ J2)) c n 0
   generalize rng (npP J2 t (topJ J2)) n 0 = lo at hlo hmem ⊢
   have hlb : ∀ x, x ∈ lo → 0 ≤ x ∧ x < (e.length : Int) := fun x hx => by
    have := (hmem x).1 hx
    omega
   obtain ⟨s, rfl⟩ : ∃ s, k = s + (lo.length + 1) := ⟨k - (lo.length + 1), by omega⟩
   rw [if_pos (by omega), show spec_PlayHeard.l1 (s + (lo.length + 1)) e l (l.length : Int) (i : Int) lo (lo.length : Int) 0 (n : Int) J2 _ = _ from play_l1 n l (i : Int) J2 (rng (lpP J2 t (topJ J2)) n 0) lo (by omega) s lo.length 0 e (by omega) hlb, wrap_id (x := (i : Int) + 1) (by omega) (by omega), List.drop_zero, ← q]
   refine ih s k2 (i + 1) J2 _ (setAll e lo) (out ++ lo) (by omega) (hst (by omega)) (by rw [setAll_len]; exact he) (fun c c0 c1 => ?_) (fun c hcm => ?_) (by rw [List.length_append]; omega) (by omega) (by omega)
   ·rw [setAll_rd lo e hlb c c0 (by omega), hc c c0 c1, List.mem_append]
   ·rcases List.mem_append.1 hcm with h | h
    ·exact ho c h
    ·have := hlb c h
     omega
  ·rw [if_neg (by simpa using h20), if_neg h20]
   dsimp only
   rw [if_neg (by simp)]
   exact ⟨[], false, rfl, rfl, by simp⟩
theorem play_both (a : Int) (l : List Int) (hl : l.length ≤ 1048576) (k k' : Nat) (hk : 70 * l.length + 8000 < k) (hk' : 70 * l.length + 8000 < k') : ∃ r b, spec_PlayHeard.f k a l = some (r, b) ∧ impl_PlayHeard.f k' a l = some (r, b) ∧ r.length ≤ 60 := by
 unfold spec_PlayHeard.f impl_PlayHeard.f spec_NewSender.f impl_NewSender.f
 rw [spec_in, impl_in_]
 simp only [Option.bind_some]
 obtain ⟨k, rfl⟩ := round hk
 obtain ⟨k', rfl⟩ := round hk'
 by_cases ha : 0 ≤ a ∧ a ≤ 60
 ·rw [if_pos (by simpa using ha)]
  simp only [Option.bind_some]
  obtain ⟨b, h1, h2, h3⟩ := order l a ha.1 (by omega) hl (k + 1) (k' + 1) (by omega) (by omega)
  simp only [if_true, h1, h2, Option.bind_some]
  rw [spec_PlayHeard.j0, impl_PlayHeard.j0]
  cases b with
  | false => exact ⟨[], false, rfl, rfl, by simp⟩
  | true =>
   obtain ⟨n, rfl⟩ := Int.eq_ofNat_of_zero_le ha.1
   rw [if_neg (by simp), if_pos (by omega), if_pos (by omega), Int.toNat_natCast, if_neg (by simp)]
   have hn : n ≤ 60 := by omega
   exact play_l0 n hn l hl (fun j hj => by have := h3 rfl j hj; omega) l.length k k' 0 [] [] (List.replicate n false) [] (by omega) ⟨trivial, by simp, (fun x hx => by cases hx), List.Pairwise.nil, (fun x hx => by cases hx)⟩ (by simp) (fun c c0 c1 => by unfold rdOf; rw [List.getD_eq_getElem?_getD, List.getElem?_replicate]; split <;> simp) (fun c hc => by cases hc) (by simp) (by omega) (by omega)
 ·rw [if_neg (by simpa using ha)]
  simp only [Option.bind_some]
  simp only [Bool.false_eq_true, if_false]
  rw [spec_PlayHeard.j0, impl_PlayHeard.j0, if_pos rfl, if_pos rfl]
  exact ⟨[], false, rfl, rfl, by simp⟩

end Go.Proofs.Ytligcknlmbgbiaa.Pure

namespace Go.Proofs.Ytligcknlmbgbiaa.Pure
open Go.RowKit Go.Proofs.Ytligcknlmbgbiaa.P Go.Proofs.YtligcknlmbgbiaaW.PrintWords Go.Proofs.YtligcknlmbgbiaaW.PrintLast Go.Proofs.Ytligcknlmbgbiaa.Opn
set_option linter.unusedVariables false
set_option linter.unusedSimpArgs false

theorem markIntS_l0 (n : Nat) (a : Int) (ha : 0 ≤ a) (hb : a + n ≤ 1000000000) : ∀ (d k i : Nat) (y : List Int), i + d = n → d < k → y.length = n → y.take i = marks a i → laws_markIntS.l0 k y (a + i) (i : Int) = some (a + n, marks a n) := by
 intro d
 induction d with
 | zero =>
  intro k i y hi hk hy ht
  obtain ⟨k, rfl⟩ := round hk
  simp only [laws_markIntS.l0]
  rw [if_neg (by omega)]
  have : i = n := by omega
  subst this
  rw [← hy, List.take_length] at ht
  rw [ht, hy]
 | succ d ih =>
  intro k i y hi hk hy ht
  obtain ⟨k, rfl⟩ := round hk
  simp only [laws_markIntS.l0]
  rw [if_pos (by omega), if_pos (by omega), wrap_id (by omega) (by omega), wrap_id (by omega) (by omega), Int.toNat_natCast]
  have := ih k (i + 1) (y.set i (a + i)) (by omega) (by omega) (by simpa using hy) (by rw [take_set_succ _ _ (by omega), ht, marks_snoc])
  rw [show a + (i : Int) + 1 = a + ((i + 1 : Nat) : Int) by push_cast; omega]
  simpa using this
theorem markIntS (y : List Int) (a : Int) (ha : 0 ≤ a) (hb : a + y.length ≤ 1000000000) (k : Nat) (hk : y.length < k) : laws_markIntS.f k y a = some (a + y.length, marks a y.length) := by
 unfold laws_markIntS.f
 have := markIntS_l0 y.length a ha hb y.length k 0 y (by omega) hk rfl (by simp [marks])
 simpa using this
theorem heldIntS_l0 (n : Nat) (a : Int) (ha : 0 ≤ a) (hb : a + n ≤ 1000000000) : ∀ (d k i : Nat), i + d = n → d < k → laws_heldIntS.l0 k (marks a n) (a + i) (i : Int) = some (a + n) := by
 intro d
 induction d with
 | zero =>
  intro k i hi hk
  obtain ⟨k, rfl⟩ := round hk
  simp only [laws_heldIntS.l0]
  rw [if_neg (by rw [marks_length]; omega)]
  have : i = n := by omega
  subst this
  rfl
 | succ d ih =>
  intro k i hi hk
  obtain ⟨k, rfl⟩ := round hk
  simp only [laws_heldIntS.l0]
  rw [if_pos (by rw [marks_length]; omega), if_pos (by omega), marks_rd n a i (by omega), if_pos rfl, wrap_id (by omega) (by omega), wrap_id (by omega) (by omega)]
  have := ih k (i + 1) (by omega) (by omega)
  rw [show a + (i : Int) + 1 = a + ((i + 1 : Nat) : Int) by push_cast; omega]
  simpa using this
theorem heldIntS (n : Nat) (a : Int) (ha : 0 ≤ a) (hb : a + n ≤ 1000000000) (k : Nat) (hk : n < k) : laws_heldIntS.f k (marks a n) a = some (a + n) := by
 unfold laws_heldIntS.f
 have := heldIntS_l0 n a ha hb n k 0 (by omega) hk
 simpa using this

end Go.Proofs.Ytligcknlmbgbiaa.Pure

namespace Go.Proofs.Ytligcknlmbgbiaa.Pure
open Go.RowKit Go.Proofs.Ytligcknlmbgbiaa.P Go.Proofs.YtligcknlmbgbiaaW.PrintWords Go.Proofs.YtligcknlmbgbiaaW.PrintLast Go.Proofs.Ytligcknlmbgbiaa.Opn
set_option linter.unusedVariables false
set_option linter.unusedSimpArgs false

theorem FnExactPlayHeard : laws_FnExactPlayHeard.Pure := by
 intro a l _ hl
 by_cases hn : l.length ≤ 1048576
 ·obtain ⟨k, hk⟩ : ∃ k : Nat, 74000000 < k := ⟨74000001, by omega⟩
  refine ⟨k + 1 + 1 + 1, ?_⟩
  obtain ⟨c, b, h1, h2, h3⟩ := play_both a l hn (k + 1 + 1 + 1) (k + 1 + 1 + 1) (by omega) (by omega)
  obtain ⟨c', b', h1', h2', h3'⟩ := play_both a l hn (k + 1 + 1 + 1) (k + 1) (by omega) (by omega)
  have e : (c, b) = (c', b') := by rw [h1] at h1'; exact Option.some.inj h1'
  simp only [Prod.mk.injEq] at e
  obtain ⟨rfl, rfl⟩ := e
  unfold laws_FnExactPlayHeard.f
  rw [if_neg (by omega)]
  simp only [toIntS l hn (k + 1 + 1 + 1) (by omega), Option.bind_some, h1, h2, eqIntS c c (by omega) (k + 1 + 1 + 1) (by omega), decide_true, if_true, bne_self_eq_false]
  rw [laws_FnExactPlayHeard.j0]
  simp only [bne_self_eq_false, Bool.false_eq_true, if_false, toIntS l hn (k + 1 + 1) (by omega), Option.bind_some, eqIntS l l hn (k + 1 + 1) (by omega), decide_true, if_true, markIntS l 1 (by omega) (by omega) (k + 1 + 1) (by omega), eqIntS c c (by omega) (k + 1 + 1) (by omega)]
  rw [if_neg (by omega), laws_FnExactPlayHeard.j1]
  simp only [bne_self_eq_false, Bool.false_eq_true, if_false, markIntS c 1 (by omega) (by omega) (k + 1) (by omega), Option.bind_some, heldIntS c.length 1 (by omega) (by omega) (k + 1) (by omega), toIntS l hn (k + 1) (by omega), h2', eqIntS c c (by omega) (k + 1) (by omega), decide_true, if_true]
  rw [if_neg (by omega), laws_FnExactPlayHeard.j2]
  simp only [bne_self_eq_false, Bool.false_eq_true, if_false, heldIntS c.length 1 (by omega) (by omega) k (by omega), Option.bind_some, if_true]
  rw [if_neg (by omega)]
 ·refine ⟨0, ?_⟩
  unfold laws_FnExactPlayHeard.f
  rw [if_pos (by omega)]

end Go.Proofs.Ytligcknlmbgbiaa.Pure

namespace Go.Proofs.Ytligcknlmbgbiaa.fnExactPlayHeard
open Go.ChangeShapes Go.WideShapes Go.ChangeAt Go.RowKit Go.Proofs.Ytligcknlmbgbiaa.P Go.Proofs.Ytligcknlmbgbiaa.Opn Go.Proofs.YtligcknlmbgbiaaW.PrintWords
open Go.ChangeMaps (open_string shut_string)
set_option linter.unusedVariables false
theorem own : ownKnob Try.prog.godebug = none := by kernel_rfl
theorem laidOut : laidOutB Try.prog = true := by kernel_rfl
set_option maxRecDepth 100000 in
theorem lifted (os : Os) (started : os.Started) (H : Type) (enc : TypeId × Value → H) :
  ReturnsInHanded {} Try.checked os 6 .any (Rows.fnExactPlayHeardSpec.pre6 enc Try.prog Try.f6 Rows.fnExactPlayHeardRow.domain false) (Rows.fnExactPlayHeardSpec.post enc Try.prog Try.f6 false true false false) := by
 refine returnsInHanded_of_change_sized (C := Try.checked) own started (by kernel_rfl) Try.func6
  (ChangeSpec.witness6 (enc := enc) (C := Try.checked) false ⟨#[], #[.int .i64 0, .slice none 0 0], []⟩ 8 (by kernel_rfl) (by kernel_rfl) (by kernel_rfl) (by kernel_rfl)) ?_
 intro W base args ds gs before hval0 hW hcnd hsz0 _
 have hval : ∀ (j : Nat) t v, Try.f6.params[j]? = some t → args[j]? = some v → Value.okWide Try.prog W .any base t v := hval0
 have hW' := hW
 obtain ⟨p, q, hA0, hV, rfl, hfz, hnd⟩ := hW
 have hA : DataW.TrodAll enc Try.prog W 0 (fun _ => true) true Try.f6.params.toList args.toList ds p := hA0
 rw [Try.params6] at hA hval
 obtain ⟨v0, vs0, d0, ds0, p0, q0, hargs, rfl, rfl, h0, r0⟩ := trodAll_cons hA
 obtain ⟨v1, vs1, d1, ds1, p1, q1, rfl, rfl, rfl, h1, r1⟩ := trodAll_cons r0
 obtain ⟨rfl, rfl, rfl⟩ := trodAll_nil r1
 obtain rfl : args = #[v0, v1] := by cases args; simp_all
 obtain ⟨rfl, rfl⟩ := trodVars_none hV
 obtain ⟨a0, rfl, rfl, rfl, w0⟩ := open_int Try.underlying3 (hval 0 3 v0 rfl rfl) h0
 have k1 := h1
 have lt1 : ∀ x ∈ p1, x.block < W.heap.size := by obtain ⟨m, hm⟩ := k1; exact DataW.trod_lt m _ _ _ hm
 obtain ⟨fuel1, hf1⟩ := h1
 obtain ⟨y1, hK1, hw1⟩ := opens23.out enc W fuel1 _ _ hf1
 obtain ⟨a1, len1, cap1, rfl⟩ := okWide_slice Try.underlying23 (hval 1 23 v1 rfl rfl)
 obtain ⟨A1, c1, hcs1, hc1, hr1⟩ := hK1
 simp only [Value.cells, List.cons.injEq, Value.slice.injEq, and_true] at hcs1
 obtain ⟨rfl, rfl, rfl⟩ := hcs1
 obtain ⟨k_, hP⟩ := Pure.FnExactPlayHeard a0 y1 (wfI_of w0) hw1
 refine (laws_FnExactPlayHeard.calls k_ a0 _ _ y1 true W hr1 hc1 hP).mono fun e W' he => ?_
 obtain ⟨rfl, hd⟩ := he
 have bel : Below W.heap.size W W' := hd
 exact ⟨_, rfl, _, _, _, [], _, [], hW', trodAll_mk1 (shut_bool Try.underlying4 _), (trodAll_cons_mk (shut_int Try.underlying3 w0) (trodAll_cons_mk (Below.trod laidOut (by kernel_rfl) (of_decide_eq_true (by kernel_rfl)) k1 bel lt1) trodAll_mk0)), rfl, bel.frame _, fun h => by cases h⟩
theorem over : Rows.fnExactPlayHeardRow.holds Try.pinned (OpenSpec.ofChange Rows.fnExactPlayHeardSpec) :=
 OpenClaim.holds_of_wide 6 Try.f6 rfl rfl rfl rfl rfl rfl rfl ⟨rfl, rfl, rfl, rfl, rfl⟩ rfl rfl rfl rfl rfl (by kernel_rfl) Try.func6 (by kernel_rfl)
  (of_decide_eq_true (by kernel_rfl)) (by unfold Func.isWrapper; first | (rw [if_pos (by decide +kernel)]; kernel_rfl) | (rw [if_neg (by decide +kernel)]; exact ⟨rfl, rfl⟩))
  (fun os started H enc _ => lifted os started H enc)
end Go.Proofs.Ytligcknlmbgbiaa.fnExactPlayHeard
namespace Go.Proofs.Ytligcknlmbgbiaa
/-- The row. -/
theorem fnExactPlayHeard_holds : Rows.FnExactPlayHeardSaid := fnExactPlayHeard.over
#print axioms fnExactPlayHeard_holds
end Go.Proofs.Ytligcknlmbgbiaa
