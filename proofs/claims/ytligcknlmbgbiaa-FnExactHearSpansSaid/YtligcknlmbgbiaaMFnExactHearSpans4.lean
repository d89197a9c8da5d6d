/- FnExactHearSpans: for every input that can be read, the law returns true and its arguments read as before. Conditions: none beyond the row's own. (Part 5 of 7: contracts made by pw.py with the kit's print, contracts by hand, plain laws, the row.) -/
import Derived.Test.YtligcknlmbgbiaaMFnExactHearSpans3

namespace Go.Proofs.Ytligcknlmbgbiaa.P
open Go.RowKit Go.Proofs.YtligcknlmbgbiaaW.PrintWords Go.Proofs.YtligcknlmbgbiaaW.PrintLast Go.Proofs.YtligcknlmbgbiaaW.PrintMore
attribute [local go_sem] max2_int min2_int max_two min_two max_three min_three max_four min_four
set_option linter.unusedVariables false
set_option linter.unusedSimpArgs false

/-! ### impl_HearSpans: function 23 -/
mutual
def impl_HearSpans.j0 : Nat → List (S59) → Bool → Int → List (S59) → List Int → Option (Int × (List (S59)) × List Int × List Int × List Int × Bool)
  | 0, _, _, _, _, _ => none
  | k + 1, x1, x26, x102000, x102001, x102002 => if x26 = true then (some (0, ([] : List (S59)), ([] : List Int), ([] : List Int), ([] : List Int), false)) else ((impl_JoinSpans.f k x102001 x1).bind fun bt105 => (if bt105.2 = true then (impl_HearSpans.l0 k (([] : List Int)) (([] : List Int)) x102000 0 x102000 x102001 x102002 bt105.1) else (some (0, ([] : List (S59)), ([] : List Int), ([] : List Int), ([] : List Int), false))))
def impl_HearSpans.l0 : Nat → List Int → List Int → Int → Int → Int → List (S59) → List Int → List (S59) → Option (Int × (List (S59)) × List Int × List Int × List Int × Bool)
  | 0, _, _, _, _, _, _, _, _ => none
  | k + 1, x10, x11, x41, x42, x102000, x102001, x102002, x110000 => if x42 < x41 then ((impl_has.f x110000 x42).bind fun t116 => (if t116 = true then ((impl_has.f x102001 x42).bind fun t117 => (if t117 = true then (impl_HearSpans.l0 k x10 x11 x41 (wrap64 (x42 + 1)) x102000 x102001 x102002 x110000) else (if x10.length < 17592186044416 then (impl_HearSpans.l0 k (x10 ++ [x42]) x11 x41 (wrap64 (x42 + 1)) x102000 x102001 x102002 x110000) else (none)))) else (impl_HearSpans.l0 k x10 x11 x41 (wrap64 (x42 + 1)) x102000 x102001 x102002 x110000))) else ((slices_Clone_int_int.f x102002).bind fun t121 => ((slices_DeleteFunc_int_int.f t121 x110000).bind fun t124 => (if (x110000.length : Int) > 0 then (if 0 ≤ (wrap64 ((x110000.length : Int) - 1)) then (if (wrap64 ((x110000.length : Int) - 1)) < (x110000.length : Int) then ((impl_Span_82.f k x102000 x110000 t124).bind fun t129 => (impl_HearSpans.l1 k x10 x11 (wrap64 (((rd_T59 x110000 (wrap64 ((x110000.length : Int) - 1))).f1) - 1)) t129 (t129.length : Int) 0 x102000 x110000 t124)) else (none)) else (none)) else (if t124.length + x11.length < 17592186044416 then ((slices_Sort_int_int.f (t124 ++ x11)).bind fun t143 => (some (x102000, x110000, t143, x10, x11, true))) else (none)))))
def impl_HearSpans.l1 : Nat → List Int → List Int → Int → List Int → Int → Int → Int → List (S59) → List Int → Option (Int × (List (S59)) × List Int × List Int × List Int × Bool)
  | 0, _, _, _, _, _, _, _, _, _ => none
  | k + 1, x10, x11, x14, x80, x81, x82, x128000, x128001, x128002 => if x82 < x81 then (if 0 ≤ x82 then (if x82 < (x80.length : Int) then (if x14 ≥ (wrap64 ((rd x80 x82) + 3)) then (if x11.length < 17592186044416 then (impl_HearSpans.l1 k x10 (x11 ++ [rd x80 x82]) x14 x80 x81 (wrap64 (x82 + 1)) x128000 x128001 x128002) else (none)) else (impl_HearSpans.l1 k x10 x11 x14 x80 x81 (wrap64 (x82 + 1)) x128000 x128001 x128002)) else (none)) else (none)) else (if x128002.length + x11.length < 17592186044416 then ((slices_Sort_int_int.f (x128002 ++ x11)).bind fun t139 => (some (x128000, x128001, t139, x10, x11, true))) else (none))
end
def impl_HearSpans.f (k : Nat) (a0_0 : Int) (l0_1 : List (S59)) (l0_2 : List Int) (l1 : List (S59)) : Option (Int × (List (S59)) × List Int × List Int × List Int × Bool) := (impl_GoodSender.f k a0_0 l0_1 l0_2).bind fun t103 => (if t103 = true then ((impl_areBelow.f k l1 a0_0).bind fun t104 => (impl_HearSpans.j0 k l1 (!t104) a0_0 l0_1 l0_2)) else (impl_HearSpans.j0 k l1 true a0_0 l0_1 l0_2))
def impl_HearSpans.T13 : Bool × List (List Nat × List Nat) := (true, [([], []), ([0], [0]), ([], []), ([], []), ([3], [3]), ([4], [4]), ([], []), ([5, 6, 5], [5, 6]), ([1, 2, 7], [1, 2, 7]), ([], []), ([9, 8, 7, 0, 1, 2, 3, 4, 5, 6, 7, 8, 9], [8, 9])])
def impl_HearSpans.B13 : List Nat := [0, 1, 0, 0, 8, 24, 0, 120, 255, 0, 1023]
theorem impl_HearSpans.tab13 : rtab .any (opsOf Try.f23 13) = impl_HearSpans.T13 := by kernel_rfl
theorem impl_HearSpans.bits13 : waitsOk impl_HearSpans.T13.2 impl_HearSpans.B13 = true := by kernel_rfl
set_option maxHeartbeats 8000000 in
set_option maxRecDepth 100000 in
theorem impl_HearSpans.calls (k : Nat) (a0_0 : Int) (A0_1 : Option Addr) (c0_1 : Nat) (l0_1 : List (S59)) (A0_2 : Option Addr) (c0_2 : Nat) (l0_2 : List Int) (A1 : Option Addr) (c1 : Nat) (l1 : List (S59)) (r1 : Int) (r2 : List (S59)) (r3 : List Int) (r4 : List Int) (r5 : List Int) (r6 : Bool) (w : World) (hr0_1 : Kd.C k59 w A0_1 l0_1.length l0_1) (hc0_1 : l0_1.length ≤ c0_1) (hr0_2 : Kd.C (Kd.int .i64) w A0_2 l0_2.length l0_2) (hc0_2 : l0_2.length ≤ c0_2) (hr1 : Kd.C k59 w A1 l1.length l1) (hc1 : l1.length ≤ c1) (h : impl_HearSpans.f k a0_0 l0_1 l0_2 l1 = some (r1, r2, r3, r4, r5, r6)) :
  Calls Try.prog 23 #[.agg #[.int .i64 a0_0, .slice A0_1 l0_1.length c0_1, .slice A0_2 l0_2.length c0_2], .slice A1 l1.length c1] w fun e w' => ∃ v1_ v2_ v3_ v4_ : Value, e = .returned (.tuple #[.agg #[.int .i64 r1, v1_, v2_], v3_, v4_, .bool r6]) ∧ Kd.R k59 59 w' w.heap.size (fun _ => True) v1_ r2 ∧ Kd.R (Kd.int .i64) 3 w' w.heap.size (fun k_ => some k_ ≠ (v3_ : Value).ownBlock ∧ some k_ ≠ (v4_ : Value).ownBlock) v2_ r3 ∧ Kd.R (Kd.int .i64) 3 w' w.heap.size (fun k_ => some k_ ≠ (v2_ : Value).ownBlock ∧ some k_ ≠ (v4_ : Value).ownBlock) v3_ r4 ∧ Kd.R (Kd.int .i64) 3 w' w.heap.size (fun k_ => some k_ ≠ (v2_ : Value).ownBlock ∧ some k_ ≠ (v3_ : Value).ownBlock) v4_ r5 ∧ Below w.heap.size w w' := by
 have hu31 := Try.underlying31
 have HR0_1 := sA hr0_1
 have HC0_1 := sA hc0_1
 clear hr0_1 hc0_1
 have HR0_2 := sA hr0_2
 have HC0_2 := sA hc0_2
 clear hr0_2 hc0_2
 have HR1 := sA hr1
 have HC1 := sA hc1
 clear hr1 hc1
 have HB := sA (Below.refl w.heap.size w)
 have H : ((impl_GoodSender.f k a0_0 l0_1 l0_2).bind fun t103 => (if t103 = true then ((impl_areBelow.f k l1 a0_0).bind fun t104 => (impl_HearSpans.j0 k l1 (!t104) a0_0 l0_1 l0_2)) else (impl_HearSpans.j0 k l1 true a0_0 l0_1 l0_2))) = some (r1, r2, r3, r4, r5, r6) := h
 clear h
 have HC3 := sA H
 clear H
 go_enter Try.func23, Try.ntmps23
 go_upto_region 1 with (first | ((with_reducible refine gate_dst (N := 2) rfl ?_); refine box_event ?hg (N := 2) ?hd (cs := #[.int .i64 a0_0, .slice A0_1 l0_1.length c0_1, .slice A0_2 l0_2.length c0_2]) (t := 31) ?hr ?_; (case hd => rfl); (case hg => rfl); (case hr => first | (go_simp; done) | (go_simp; rfl)); intro gb101 hg w4 hbox hb; have BK101 := sA (hbox); have GW101 := sA ((by rw [hg]; exact (below_size sH) : w.heap.size ≤ gb101)); have GE101 := sA ((by rw [hg]; exact (below_size sH) : w.heap.size ≤ gb101)); replace HB := sA (below_step sH hb); clear hb hbox hg) | ((with_reducible refine gate_dst (N := 4) rfl ?_); refine box_event ?hg (N := 4) ?hd (cs := #[.int .i64 0, .slice none 0 0, .slice none 0 0]) (t := 31) ?hr ?_; (case hd => rfl); (case hg => rfl); (case hr => first | (go_simp; done) | (go_simp; rfl)); intro gb102 hg w5 hbox hb; have BK102 := sA (hbox); have GW102 := sA ((by rw [hg]; exact (below_size sH) : w.heap.size ≤ gb102)); have GE102 := sA ((by rw [hg]; exact (below_size sH) : w.heap.size ≤ gb102)); replace HB := sA (below_step sH hb); have NB101_102 := sA ((by rw [hg]; exact Nat.ne_of_lt (blk_lt (sB BK101.out)) : gb101 ≠ gb102)); have NB102_101 := sA ((by rw [hg]; exact Nat.ne_of_gt (blk_lt (sB BK101.out)) : gb102 ≠ gb101)); replace BK101 := sJ BK101 hb; clear hb hbox hg))
 (try simp only [Act.put, sI, sZ, sV])
 go_cut [26] (fun v26 wc => ∃ (kq : Nat) (x26_2 : Bool), v26 = .bool x26_2 ∧ Aside0 (impl_HearSpans.j0 kq l1 x26_2 a0_0 l0_1 l0_2 = some (r1, r2, r3, r4, r5, r6)) ∧ Aside0 (kq ≤ k) ∧ Aside0 (wc.heap[gb101]? = some (.cells #[.int .i64 a0_0, (.slice A0_1 l0_1.length c0_1), (.slice A0_2 l0_2.length c0_2)] 31 (0, 0))) ∧ Aside0 (wc.heap[gb102]? = some (.cells #[.int .i64 0, (.slice none 0 0), (.slice none 0 0)] 31 (0, 0))) ∧ Aside0 (Below w.heap.size w wc))
 case first =>
  have H := HC3.out
  clear HC3
  obtain ⟨t103, A6, H⟩ := sN H
  by_cases c7 : t103 = true
  ·subst c7
   replace H := sY H
   obtain ⟨t104, A8, H⟩ := sN H
   have H' := sA H
   clear H
   have := NB101_102.out
   have := NB102_101.out
   obtain ⟨_, _, _, _, _, _⟩ := sD3 BK101
   go_wp2_with (first | ((with_reducible refine gate_callee (f := 35) rfl ?_); refine goesL_ (some 18) rfl rfl Try.func35 (by kernel_rfl) rfl #[.agg #[.int .i64 a0_0, .slice A0_1 l0_1.length c0_1, .slice A0_2 l0_2.length c0_2]] rfl sG ?_; (with_reducible refine (impl_GoodSender.calls k a0_0 _ _ l0_1 _ _ l0_2 true _ ?side1 ?side2 ?side3 ?side4 A6.out).mono ?_); (case side1 => exact sK (Kd.C_below HR0_1.out HB.out)); (case side2 => exact HC0_1.out); (case side3 => exact sK (Kd.C_below HR0_2.out HB.out)); (case side4 => exact HC0_2.out); rintro e w11 ⟨rfl, hb⟩; refine ⟨_, rfl, ?_⟩; replace BK101 := sJ BK101 hb; replace BK102 := sJ BK102 hb; replace HB := sA (below_step sH hb); (try clear hb); (try clear hb2); (try clear hk); (try clear hi); obtain ⟨_, _, _, _, _, _⟩ := sD3 BK101) | (go_at_call 43; (with_reducible refine (impl_areBelow.calls k _ _ l1 a0_0 t104 _ ?side1 ?side2 A8.out).mono ?_); (case side1 => exact sK (Kd.C_below HR1.out HB.out)); (case side2 => exact HC1.out); rintro e w13 ⟨rfl, hb⟩; replace BK101 := sJ BK101 hb; replace BK102 := sJ BK102 hb; replace HB := sA (below_step sH hb); (try clear hb); (try clear hb2); (try clear hk); (try clear hi)))
   go_meet
   case rel => exact ⟨_, (!t104), (by first | rfl | (simp; done) | (simp [*]; done)), H', ⟨by first | omega | exact Nat.le_refl _⟩, ⟨sB BK101.out⟩, ⟨sB BK102.out⟩, ⟨sH⟩⟩
  ·replace c7 := Bool.eq_false_iff.mpr c7
   subst c7
   replace H := sX H
   have H' := sA H
   clear H
   have := NB101_102.out
   have := NB102_101.out
   obtain ⟨_, _, _, _, _, _⟩ := sD3 BK101
   go_wp2_with (first | ((with_reducible refine gate_callee (f := 35) rfl ?_); refine goesL_ (some 18) rfl rfl Try.func35 (by kernel_rfl) rfl #[.agg #[.int .i64 a0_0, .slice A0_1 l0_1.length c0_1, .slice A0_2 l0_2.length c0_2]] rfl sG ?_; (with_reducible refine (impl_GoodSender.calls k a0_0 _ _ l0_1 _ _ l0_2 false _ ?side1 ?side2 ?side3 ?side4 A6.out).mono ?_); (case side1 => exact sK (Kd.C_below HR0_1.out HB.out)); (case side2 => exact HC0_1.out); (case side3 => exact sK (Kd.C_below HR0_2.out HB.out)); (case side4 => exact HC0_2.out); rintro e w16 ⟨rfl, hb⟩; refine ⟨_, rfl, ?_⟩; replace BK101 := sJ BK101 hb; replace BK102 := sJ BK102 hb; replace HB := sA (below_step sH hb); (try clear hb); (try clear hb2); (try clear hk); (try clear hi)))
   go_meet
   case rel => exact ⟨_, (true), (by first | rfl | (simp; done) | (simp [*]; done)), H', ⟨by first | omega | exact Nat.le_refl _⟩, ⟨sB BK101.out⟩, ⟨sB BK102.out⟩, ⟨sH⟩⟩
 case rest =>
  clear HC3
  (try clear c1); (try clear c2); (try clear p2); (try clear c3); (try clear c7); (try clear c9); (try clear c14)
  obtain ⟨kq, x26_2, rfl, HA, HJ2, BK101, BK102, HB⟩ := hcut
  cases kq with
  | zero => exact absurd HA.out (by simp [impl_HearSpans.j0])
  | succ kj2 =>
   have H := HA.out
   clear HA
   simp only [impl_HearSpans.j0] at H
   by_cases c17 : x26_2 = true
   ·subst c17
    replace H := sY H
    simp only [Option.some.injEq, Prod.mk.injEq] at H
    obtain ⟨rfl, rfl, rfl, rfl, rfl, rfl⟩ := H
    have := NB102_101.out
    have := NB101_102.out
    obtain ⟨_, _, _, _, _, _⟩ := sD3 BK102
    go_wp2
    refine bodyPost_ret (results_list (rs := [.cell 4 31, .tmp 5, .tmp 6, .tmp 7]) rfl (by simp) (.cell gb102 31 #[.int .i64 0, .slice none 0 0, .slice none 0 0] (0, 0) _ rfl (by (with_reducible repeat first | apply blk_drewN | apply blk_drew | apply blk_alloc); refine blk_put (cs := #[.int .i64 0, .slice none 0 0, .slice none 0 0]) ?_ 2 _ rfl; (with_reducible repeat first | apply blk_drewN | apply blk_drew | apply blk_alloc); refine blk_put (cs := #[.int .i64 0, .slice none 0 0, .slice none 0 0]) ?_ 1 _ rfl; (with_reducible repeat first | apply blk_drewN | apply blk_drew | apply blk_alloc); refine blk_put (cs := #[.int .i64 0, .slice none 0 0, .slice none 0 0]) ?_ 0 _ rfl; (with_reducible repeat first | apply blk_drewN | apply blk_drew | apply blk_alloc); exact BK102.out) Try.underlying31 rfl (by kernel_rfl) (.tmp (.tmp (.tmp .nil))))) rfl ?_
    exact ⟨_, _, _, _, by first | rfl | (simp [errW_none, errW_some] <;> rfl) | (simp [*, errW_none, errW_some] <;> rfl), by first | exact Kd.R_nil _ _ _ _ _ | exact Kd.N_nil _ _ _ _ _ | exact Kd.V_nil _ _ _ _ _ | exact Kd.Q_nil _ _ _ _ _ | exact Kd.S_nil _ _ _ _ _, by first | exact Kd.R_nil _ _ _ _ _ | exact Kd.N_nil _ _ _ _ _ | exact Kd.V_nil _ _ _ _ _ | exact Kd.Q_nil _ _ _ _ _ | exact Kd.S_nil _ _ _ _ _, by first | exact Kd.R_nil _ _ _ _ _ | exact Kd.N_nil _ _ _ _ _ | exact Kd.V_nil _ _ _ _ _ | exact Kd.Q_nil _ _ _ _ _ | exact Kd.S_nil _ _ _ _ _, by first | exact Kd.R_nil _ _ _ _ _ | exact Kd.N_nil _ _ _ _ _ | exact Kd.V_nil _ _ _ _ _ | exact Kd.Q_nil _ _ _ _ _ | exact Kd.S_nil _ _ _ _ _, by repeat (first | (with_reducible first | exact HB.out | apply sLA | apply sLN | apply sLD | refine sLS ?_ GE101.out | refine sLS ?_ GE102.out) | exact HB.out)⟩
   ·replace c17 := Bool.eq_false_iff.mpr c17
    subst c17
    replace H := sX H
    obtain ⟨⟨t105, t108⟩, A20, H⟩ := sN H
    (try dsimp only at H)
    by_cases c21 : t108 = true
    ·subst c21
     replace H := sY H
     obtain ⟨y110, hy110⟩ : ∃ y_ : List Int, y_ = (([] : List Int)) := ⟨_, rfl⟩
     replace H : (impl_HearSpans.l0 kj2 y110 (([] : List Int)) a0_0 0 a0_0 l0_1 l0_2 t105) = some (r1, r2, r3, r4, r5, r6) := by first | (rw [hy110]; with_reducible exact H) | (have H2_ := (Option.bind_some _ _).symm.trans H; rw [hy110]; with_reducible exact H2_) | (have H2_ := (Option.bind_some _ _).symm.trans H; with_reducible exact H2_) | with_reducible exact H | (rw [hy110]; exact H) | exact H
     have Ny110 := sA hy110
     clear hy110
     obtain ⟨y113, hy113⟩ : ∃ y_ : List Int, y_ = (([] : List Int)) := ⟨_, rfl⟩
     replace H : (impl_HearSpans.l0 kj2 y110 y113 a0_0 0 a0_0 l0_1 l0_2 t105) = some (r1, r2, r3, r4, r5, r6) := by first | (rw [hy113]; with_reducible exact H) | (have H2_ := (Option.bind_some _ _).symm.trans H; rw [hy113]; with_reducible exact H2_) | (have H2_ := (Option.bind_some _ _).symm.trans H; with_reducible exact H2_) | with_reducible exact H | (rw [hy113]; exact H) | exact H
     have Ny113 := sA hy113
     clear hy113
     have H' := sA H
     clear H
     have := NB101_102.out
     have := NB102_101.out
     obtain ⟨_, _, _, _, _, _⟩ := sD3 BK101
     go_wp2_with (first | ((with_reducible refine gate_callee (f := 44) rfl ?_); refine goesL_ (some 32) rfl rfl Try.func44 (by kernel_rfl) rfl #[.slice A0_1 l0_1.length c0_1, .slice A1 l1.length c1] rfl sG ?_; (with_reducible refine (impl_JoinSpans.calls kj2 (fun k_ => k_ < w.heap.size) _ _ l0_1 (fun k_ => k_ < w.heap.size) _ _ l1 t105 true _ ?side1 ?side2 A20.out).mono ?_); (case side1 => exact Kd.V_mk HC0_1.out (Kd.F_below (Kd.C_F k59_heap HR0_1.out) sH)); (case side2 => exact Kd.V_mk HC1.out (Kd.F_below (Kd.C_F k59_heap HR1.out) sH)); rintro e w24 ⟨v106, rfl, ho0, hb⟩; refine ⟨_, rfl, ?_⟩; have HO107 := sA (Kd.R_lower (Kd.R_mono (ok' := fun k_ => True) ho0 (fun _ hk_ => trivial)) (below_size sH)); replace BK101 := sJ BK101 hb; replace BK102 := sJ BK102 hb; replace HB := sA (below_step sH hb); (try clear hb); (try clear hb2); (try clear hk); (try clear hi); (try clear ho0)) | ((with_reducible refine gate_dst (N := 8) rfl ?_); refine box_event ?hg (N := 8) ?hd (cs := #[.slice none 0 0]) (t := 29) ?hr ?_; (case hd => rfl); (case hg => rfl); (case hr => first | (go_simp; done) | (go_simp; rfl)); intro gb109 hg w25 hbox hb; replace HO107 := sS HO107 hb; have BK109 := sA (hbox); have GW109 := sA ((by rw [hg]; exact (below_size sH) : w.heap.size ≤ gb109)); have GE109 := sA ((by rw [hg]; exact (below_size sH) : w.heap.size ≤ gb109)); replace HB := sA (below_step sH hb); have NB101_109 := sA ((by rw [hg]; exact Nat.ne_of_lt (blk_lt (sB BK101.out)) : gb101 ≠ gb109)); have NB109_101 := sA ((by rw [hg]; exact Nat.ne_of_gt (blk_lt (sB BK101.out)) : gb109 ≠ gb101)); replace BK101 := sJ BK101 hb; have NB102_109 := sA ((by rw [hg]; exact Nat.ne_of_lt (blk_lt (sB BK102.out)) : gb102 ≠ gb109)); have NB109_102 := sA ((by rw [hg]; exact Nat.ne_of_gt (blk_lt (sB BK102.out)) : gb109 ≠ gb102)); replace BK102 := sJ BK102 hb; clear hb hbox hg; obtain ⟨Ao26, co26, eo26⟩ := Kd.R_slice HO107.out; subst eo26; have := NB109_101.out; have := NB101_109.out; have := NB109_102.out; have := NB102_109.out; obtain ⟨_, _⟩ := sD1 BK109) | ((with_reducible refine gate_dst (N := 38) rfl ?_); refine Kd.R_lit (Kd.int .i64) _ 3 ?hg (N := 38) ?hd (xs := ([] : List Int)) (inner := []) (ok := fun _ => True) (okp := fun _ => True) ?hr ?hp (fun _ hk => hk) trivial (Below.refl _ _) (Nat.le_refl _) (by simp) ?_; (case hd => rfl); (case hg => rfl); (case hr => first | (go_simp; done) | (go_simp; rfl)); (case hp => exact (Reps.none _ _)); intro v111 w30 ho31 hb hg_ hnew_; clear hg_ hnew_; (first | rw [← Ny110.out] at ho31 | (simp only [Int.reduceToNat] at ho31; rw [← Ny110.out] at ho31)); replace HO107 := sA (Kd.R_below (sR (Kd.R_mono (Kd.R_far (p := ⟨gb109, 0, none⟩) (Kd.R_types HO107.out BK109.out (by decide)) (fun _ hk => hk.2) (.slice Ao26 t105.length co26)) (fun _ h_ => h_.1))) hb); have HO112 := sA (Kd.R_lower ho31 (below_size sH)); replace BK101 := sA (blk_below (g := gb101) (o := .cells #[.int .i64 a0_0, .slice A0_1 l0_1.length c0_1, .slice A0_2 l0_2.length c0_2] 31 (0, 0)) (by (with_reducible repeat first | apply blk_drewN | apply blk_drew | apply blk_alloc); refine blk_far ?_ NB101_109.out _; (with_reducible repeat first | apply blk_drewN | apply blk_drew | apply blk_alloc); exact BK101.out) hb); replace BK102 := sA (blk_below (g := gb102) (o := .cells #[.int .i64 0, .slice none 0 0, .slice none 0 0] 31 (0, 0)) (by (with_reducible repeat first | apply blk_drewN | apply blk_drew | apply blk_alloc); refine blk_far ?_ NB102_109.out _; (with_reducible repeat first | apply blk_drewN | apply blk_drew | apply blk_alloc); exact BK102.out) hb); replace BK109 := sA (blk_below (g := gb109) (o := .cells #[.slice Ao26 t105.length co26] 29 (0, 0)) (by (with_reducible repeat first | apply blk_drewN | apply blk_drew | apply blk_alloc); refine blk_put (cs := #[.slice none 0 0]) ?_ 0 _ rfl; (with_reducible repeat first | apply blk_drewN | apply blk_drew | apply blk_alloc); exact BK109.out) hb); replace HB := sA (below_step sH hb); clear hb ho31) | ((with_reducible refine gate_dst (N := 39) rfl ?_); refine Kd.R_lit (Kd.int .i64) _ 3 ?hg (N := 39) ?hd (xs := ([] : List Int)) (inner := []) (ok := fun _ => True) (okp := fun _ => True) ?hr ?hp (fun _ hk => hk) trivial (Below.refl _ _) (Nat.le_refl _) (by simp) ?_; (case hd => rfl); (case hg => rfl); (case hr => first | (go_simp; done) | (go_simp; rfl)); (case hp => exact (Reps.none _ _)); intro v114 w32 ho33 hb hg_ hnew_; clear hg_ hnew_; (first | rw [← Ny113.out] at ho33 | (simp only [Int.reduceToNat] at ho33; rw [← Ny113.out] at ho33)); replace HO107 := sS HO107 hb; have HO115 := sA (Kd.R_lower (Kd.R_new' ho33 (Kd.R_lt (sR HO112.out))) (below_size sH)); replace HO112 := sA (Kd.R_elder' (sR HO112.out) (Kd.R_base ho33) hb); replace BK101 := sJ BK101 hb; replace BK102 := sJ BK102 hb; replace BK109 := sJ BK109 hb; replace HB := sA (below_step sH hb); clear hb ho33; obtain ⟨_, _, _, _, _, _⟩ := sD3 BK101))
     go_loopg [10, 42] kj2 (fun kq v10 v42 w' => ∃ (x10_2 : List Int) (x42_2 : Int), v42 = .int .i64 x42_2 ∧ Aside0 (impl_HearSpans.l0 kq x10_2 y113 a0_0 x42_2 a0_0 l0_1 l0_2 t105 = some (r1, r2, r3, r4, r5, r6)) ∧ Aside0 (kq ≤ kj2) ∧ Aside0 (Kd.R (Kd.int .i64) 3 w' w.heap.size (fun k_ => some k_ ≠ (v114 : Value).ownBlock) v10 x10_2) ∧ Aside0 (Kd.R (Kd.int .i64) 3 w' w.heap.size (fun k_ => some k_ ≠ (v10 : Value).ownBlock) v114 y113) ∧ Aside0 (Kd.R k59 59 w' w.heap.size (fun _ => True) (.slice Ao26 t105.length co26) t105) ∧ Aside0 (w'.heap[gb101]? = some (.cells #[.int .i64 a0_0, (.slice A0_1 l0_1.length c0_1), (.slice A0_2 l0_2.length c0_2)] 31 (0, 0))) ∧ Aside0 (w'.heap[gb102]? = some (.cells #[.int .i64 0, (.slice none 0 0), (.slice none 0 0)] 31 (0, 0))) ∧ Aside0 (w'.heap[gb109]? = some (.cells #[(.slice Ao26 t105.length co26)] 29 (0, 0))) ∧ Aside0 (Below w.heap.size w w'))
     case atStart => exact ⟨(y110), (0), (by first | rfl | (simp; done) | (simp [*]; done)), H', ⟨Nat.le_refl _⟩, ⟨sR (Kd.R_mono HO112.out (fun _ hk => hk.2))⟩, ⟨sR (Kd.R_mono HO115.out (fun _ hk => hk.2))⟩, ⟨sR HO107.out⟩, ⟨sB BK101.out⟩, ⟨sB BK102.out⟩, ⟨sB BK109.out⟩, ⟨sH⟩⟩
     case round =>
      clear H'
      (try clear c1); (try clear c2); (try clear p2); (try clear c3); (try clear c4); (try clear c7); (try clear c9); (try clear c14); (try clear c17); (try clear c18); (try clear c21); (try clear c22); (try clear c23); (try clear c27); (try clear c28); (try clear p2)
      obtain ⟨x10_2, x42_2, rfl, HA, HK2, HO_10, HO_11, HO_110000, BK101, BK102, BK109, HB⟩ := hrel
      cases gk with
      | zero => exact absurd HA.out (by simp [impl_HearSpans.l0])
      | succ k2 =>
       have H := HA.out
       clear HA
       simp only [impl_HearSpans.l0] at H
       by_cases c35 : x42_2 < a0_0
       ·rw [if_pos c35] at H
        have c35b0 : decide (x42_2 < a0_0) = true := decide_eq_true c35
        clear c35
        obtain ⟨t116, A36, H⟩ := sN H
        by_cases c37 : t116 = true
        ·subst c37
         replace H := sY H
         obtain ⟨t117, A38, H⟩ := sN H
         by_cases c39 : t117 = true
         ·subst c39
          replace H := sY H
          have H' := sA H
          clear H
          have := NB109_101.out
          have := NB101_109.out
          have := NB109_102.out
          have := NB102_109.out
          obtain ⟨_, _⟩ := sD1 BK109
          go_wp2_with (first | ((with_reducible refine gate_callee (f := 45) rfl ?_); refine goesL_ (some 47) rfl rfl Try.func45 (by kernel_rfl) rfl #[.slice Ao26 t105.length co26, .int .i64 x42_2] rfl sG ?_; (with_reducible refine (impl_has.calls _ _ t105 x42_2 true _ ?side1 ?side2 A36.out).mono ?_); (case side1 => exact sK (Kd.R_reads' HO_110000.out).2.2); (case side2 => exact (Kd.R_reads' HO_110000.out).2.1); rintro e w43 ⟨rfl, hb⟩; refine ⟨_, rfl, ?_⟩; replace HO_10 := sS HO_10 hb; replace HO_11 := sS HO_11 hb; replace HO_110000 := sS HO_110000 hb; replace BK101 := sJ BK101 hb; replace BK102 := sJ BK102 hb; replace BK109 := sJ BK109 hb; replace HB := sA (below_step sH hb); (try clear hb); (try clear hb2); (try clear hk); (try clear hi); have := NB101_102.out; have := NB102_101.out; obtain ⟨_, _, _, _, _, _⟩ := sD3 BK101) | (go_at_call 45; (with_reducible refine (impl_has.calls _ _ l0_1 x42_2 true _ ?side1 ?side2 A38.out).mono ?_); (case side1 => exact sK (Kd.C_below HR0_1.out HB.out)); (case side2 => exact HC0_1.out); rintro e w46 ⟨rfl, hb⟩; replace HO_10 := sS HO_10 hb; replace HO_11 := sS HO_11 hb; replace HO_110000 := sS HO_110000 hb; replace BK101 := sJ BK101 hb; replace BK102 := sJ BK102 hb; replace BK109 := sJ BK109 hb; replace HB := sA (below_step sH hb); (try clear hb); (try clear hb2); (try clear hk); (try clear hi)))
          go_roundg k2
          case measure => have := HJ2.out; have := HK2.out; omega
          case rel => exact ⟨(x10_2), (wrap64 (x42_2 + 1)), (by first | rfl | (simp; done) | (simp [*]; done)), H', ⟨by have := HJ2.out; have := HK2.out; omega⟩, ⟨sR HO_10.out⟩, ⟨sR HO_11.out⟩, ⟨sR HO_110000.out⟩, ⟨sB BK101.out⟩, ⟨sB BK102.out⟩, ⟨sB BK109.out⟩, ⟨sH⟩⟩
         ·replace c39 := Bool.eq_false_iff.mpr c39
          subst c39
          replace H := sX H
          by_cases c47 : x10_2.length < 17592186044416
          ·rw [if_pos c47] at H
           have LMc47 := sA c47
           clear c47
           obtain ⟨y118, hy118⟩ : ∃ y_ : List Int, y_ = (x10_2 ++ [x42_2]) := ⟨_, rfl⟩
           replace H : (impl_HearSpans.l0 k2 y118 y113 a0_0 (wrap64 (x42_2 + 1)) a0_0 l0_1 l0_2 t105) = some (r1, r2, r3, r4, r5, r6) := by first | (rw [hy118]; with_reducible exact H) | (have H2_ := (Option.bind_some _ _).symm.trans H; rw [hy118]; with_reducible exact H2_) | (have H2_ := (Option.bind_some _ _).symm.trans H; with_reducible exact H2_) | with_reducible exact H | (rw [hy118]; exact H) | exact H
           have Ny118 := sA hy118
           clear hy118
           have H' := sA H
           clear H
           have := NB109_101.out
           have := NB101_109.out
           have := NB109_102.out
           have := NB102_109.out
           obtain ⟨_, _⟩ := sD1 BK109
           go_wp2_with (first | ((with_reducible refine gate_callee (f := 45) rfl ?_); refine goesL_ (some 47) rfl rfl Try.func45 (by kernel_rfl) rfl #[.slice Ao26 t105.length co26, .int .i64 x42_2] rfl sG ?_; (with_reducible refine (impl_has.calls _ _ t105 x42_2 true _ ?side1 ?side2 A36.out).mono ?_); (case side1 => exact sK (Kd.R_reads' HO_110000.out).2.2); (case side2 => exact (Kd.R_reads' HO_110000.out).2.1); rintro e w51 ⟨rfl, hb⟩; refine ⟨_, rfl, ?_⟩; replace HO_10 := sS HO_10 hb; replace HO_11 := sS HO_11 hb; replace HO_110000 := sS HO_110000 hb; replace BK101 := sJ BK101 hb; replace BK102 := sJ BK102 hb; replace BK109 := sJ BK109 hb; replace HB := sA (below_step sH hb); (try clear hb); (try clear hb2); (try clear hk); (try clear hi); have := NB101_102.out; have := NB102_101.out; obtain ⟨_, _, _, _, _, _⟩ := sD3 BK101) | (go_at_call 45; (with_reducible refine (impl_has.calls _ _ l0_1 x42_2 false _ ?side1 ?side2 A38.out).mono ?_); (case side1 => exact sK (Kd.C_below HR0_1.out HB.out)); (case side2 => exact HC0_1.out); rintro e w54 ⟨rfl, hb⟩; replace HO_10 := sS HO_10 hb; replace HO_11 := sS HO_11 hb; replace HO_110000 := sS HO_110000 hb; replace BK101 := sJ BK101 hb; replace BK102 := sJ BK102 hb; replace BK109 := sJ BK109 hb; replace HB := sA (below_step sH hb); (try clear hb); (try clear hb2); (try clear hk); (try clear hi)) | ((with_reducible refine gate_builtin (b := .append) (xs := #[.tmp 55, .tmp 57]) rfl ?_); at_builtin; refine Kd.R_append (Kd.int .i64) (w0 := w) w.heap.size rfl (.tmp 55) (.tmp 57) 23 3 (.int .i64 0) 8 rfl Try.underlying23 info3 rfl (by decide) (by omega) u10 x10_2 x42_2 [.int .i64 x42_2] (fun k_ => some k_ ≠ (v114 : Value).ownBlock) (fun _ => False) rfl rfl ?aP (fun _ hk => hk.elim) ?aF ?aO ?aB ?aS ?aL ?_; (case aP => exact rfl); (case aB => exact sH); (case aF => exact (fun k_ hk => Kd.fresh' (Kd.R_lt (sR HO_11.out)) k_ hk)); (case aO => exact (sR HO_10.out)); (case aS => exact (below_size sH)); (case aL => have := LMc47.out; omega); intro v119 w55 ho hb hg hat; rw [← Ny118.out] at ho; replace HO_11 := sA (Kd.R_after (ok := (fun _ => True)) (sR (Kd.R_mono HO_11.out (fun _ hk => ⟨trivial, hk⟩))) hg hat); replace HO_110000 := sA (Kd.R_over' (sR HO_110000.out) (Kd.R_typed (sR HO_10.out)) (by decide) hg); replace BK101 := sA (blk_grown (g := gb101) (o := .cells #[.int .i64 a0_0, .slice A0_1 l0_1.length c0_1, .slice A0_2 l0_2.length c0_2] 31 (0, 0)) (sB BK101.out) hg (Kd.R_ne HO_10.out BK101.out (by decide))); replace BK102 := sA (blk_grown (g := gb102) (o := .cells #[.int .i64 0, .slice none 0 0, .slice none 0 0] 31 (0, 0)) (sB BK102.out) hg (Kd.R_ne HO_10.out BK102.out (by decide))); replace BK109 := sA (blk_grown (g := gb109) (o := .cells #[.slice Ao26 t105.length co26] 29 (0, 0)) (sB BK109.out) hg (Kd.R_ne HO_10.out BK109.out (by decide))); replace HB := sA (hb); have HO120 := sA (ho); clear HO_10; clear ho hb hg hat))
           go_roundg k2
           case measure => have := HJ2.out; have := HK2.out; omega
           case rel => exact ⟨(y118), (wrap64 (x42_2 + 1)), (by first | rfl | (simp; done) | (simp [*]; done)), H', ⟨by have := HJ2.out; have := HK2.out; omega⟩, ⟨sR HO120.out⟩, ⟨sR (Kd.R_mono HO_11.out (fun _ hk => hk.2))⟩, ⟨sR HO_110000.out⟩, ⟨sB BK101.out⟩, ⟨sB BK102.out⟩, ⟨sB BK109.out⟩, ⟨sH⟩⟩
          ·rw [if_neg c47] at H
           exact absurd H (by simp)
        ·replace c37 := Bool.eq_false_iff.mpr c37
         subst c37
         replace H := sX H
         have H' := sA H
         clear H
         have := NB109_101.out
         have := NB101_109.out
         have := NB109_102.out
         have := NB102_109.out
         obtain ⟨_, _⟩ := sD1 BK109
         go_wp2_with (first | ((with_reducible refine gate_callee (f := 45) rfl ?_); refine goesL_ (some 47) rfl rfl Try.func45 (by kernel_rfl) rfl #[.slice Ao26 t105.length co26, .int .i64 x42_2] rfl sG ?_; (with_reducible refine (impl_has.calls _ _ t105 x42_2 false _ ?side1 ?side2 A36.out).mono ?_); (case side1 => exact sK (Kd.R_reads' HO_110000.out).2.2); (case side2 => exact (Kd.R_reads' HO_110000.out).2.1); rintro e w59 ⟨rfl, hb⟩; refine ⟨_, rfl, ?_⟩; replace HO_10 := sS HO_10 hb; replace HO_11 := sS HO_11 hb; replace HO_110000 := sS HO_110000 hb; replace BK101 := sJ BK101 hb; replace BK102 := sJ BK102 hb; replace BK109 := sJ BK109 hb; replace HB := sA (below_step sH hb); (try clear hb); (try clear hb2); (try clear hk); (try clear hi)))
         go_roundg k2
         case measure => have := HJ2.out; have := HK2.out; omega
         case rel => exact ⟨(x10_2), (wrap64 (x42_2 + 1)), (by first | rfl | (simp; done) | (simp [*]; done)), H', ⟨by have := HJ2.out; have := HK2.out; omega⟩, ⟨sR HO_10.out⟩, ⟨sR HO_11.out⟩, ⟨sR HO_110000.out⟩, ⟨sB BK101.out⟩, ⟨sB BK102.out⟩, ⟨sB BK109.out⟩, ⟨sH⟩⟩
       ·rw [if_neg c35] at H
        have c35b0 : decide (x42_2 < a0_0) = false := decide_eq_false c35
        clear c35
        obtain ⟨t121, A60, H⟩ := sN H
        obtain ⟨t124, A61, H⟩ := sN H
        by_cases c62 : (t105.length : Int) > 0
        ·rw [if_pos c62] at H
         have c62b0 : decide (0 < (t105.length : Int)) = true := decide_eq_true c62
         have c62b1 : decide (0 < t105.length) = true := decide_eq_true (by omega)
         clear c62
         obtain ⟨ji63, hji63⟩ : ∃ j_ : Int, (wrap64 ((t105.length : Int) - 1)) = j_ := ⟨_, rfl⟩
         replace H : (if 0 ≤ (ji63) then (if (ji63) < (t105.length : Int) then ((impl_Span_82.f k2 a0_0 t105 t124).bind fun t129 => (impl_HearSpans.l1 k2 x10_2 y113 (wrap64 (((rd_T59 t105 (ji63)).f1) - 1)) t129 (t129.length : Int) 0 a0_0 t105 t124)) else (none)) else (none)) = some (r1, r2, r3, r4, r5, r6) := by first | (rw [hji63] at H; exact H) | (simp only [hji63] at H ⊢; exact H)
         (try rw [hji63] at A60)
         (try rw [hji63] at A61)
         have hji63w : (IntKind.i64.wrap ((t105.length : Int) - 1)) = ji63 := (i64_w _).trans hji63
         by_cases c64 : 0 ≤ (ji63)
         ·rw [if_pos c64] at H
          have c64b0 : decide (0 ≤ (ji63)) = true := decide_eq_true c64
          clear c64
          by_cases c65 : (ji63) < (t105.length : Int)
          ·rw [if_pos c65] at H
           have c65b0 : decide ((ji63) < (t105.length : Int)) = true := decide_eq_true c65
           clear c65
           obtain ⟨t129, A66, H⟩ := sN H
           have H' := sA H
           clear H
           try go_wp2
           replace HO_10 := sA (Kd.R_drew HO_10.out)
           replace HO_11 := sA (Kd.R_drew HO_11.out)
           replace HO_110000 := sA (Kd.R_drew HO_110000.out)
           replace BK101 := sA (blk_drew BK101.out)
           replace BK102 := sA (blk_drew BK102.out)
           replace BK109 := sA (blk_drew BK109.out)
           replace HB := sA (below_drew1 HB.out)
           refine start_ (n := 11) (S := fun w' => w'.cell? ⟨gb101, 0, none⟩ = some (.int .i64 a0_0) ∧ w'.cell? ⟨gb101, 1, none⟩ = some (.slice A0_1 l0_1.length c0_1) ∧ w'.cell? ⟨gb101, 2, none⟩ = some (.slice A0_2 l0_2.length c0_2) ∧ w'.cell? ⟨gb109, 0, none⟩ = some (.slice Ao26 t105.length co26)) (ds := []) (sM 11 0) (by kernel_rfl) rfl rfl ⟨sC BK101 0 rfl, sC BK101 1 rfl, sC BK101 2 rfl, sC BK109 0 rfl⟩ (fun hHeld => ?_); refine with_tabW impl_HearSpans.tab13 impl_HearSpans.bits13 (fun HT_ HW_ => ?_)
           generalize wr.drew = w67 at HO_10 HO_11 HO_110000 BK101 BK102 BK109 HB hHeld ⊢
           refine sP (v := ?_) (a' := ?_) 0 60 (sM 11 1) HT_ ?_ ?_ ?_; rotate_left 2
           ·intro w'; go_simp; with_reducible rfl
           ·simp only [Act.put, sI, sZ, sV, i64_w, i32_w]; rfl
           refine sP (v := ?_) (a' := ?_) 3 63 (sM 11 9) HT_ ?_ ?_ ?_; rotate_left 2
           ·intro w'; go_simp; with_reducible rfl
           ·simp only [Act.put, sI, sZ, sV, i64_w, i32_w]; rfl
           refine sP (v := ?_) (a' := ?_) 6 66 (sM 11 73) HT_ ?_ ?_ ?_; rotate_left 2
           ·intro w'; go_simp; with_reducible rfl
           ·simp only [Act.put, sI, sZ, sV, i64_w, i32_w]; rfl
           refine sT (v := ?_) (a' := ?_) 1 61 (sM 11 75) HT_ HW_ hHeld ?_ ?_ ?_; rotate_left 2
           ·rintro w' ⟨s0, s1, s2, s3⟩; go_simp; with_reducible rfl
           ·simp only [Act.put, sI, sZ, sV, i64_w, i32_w]; rfl
           refine sT (v := ?_) (a' := ?_) 2 62 (sM 11 79) HT_ HW_ hHeld ?_ ?_ ?_; rotate_left 2
           ·rintro w' ⟨s0, s1, s2, s3⟩; go_simp; with_reducible rfl
           ·simp only [Act.put, sI, sZ, sV, i64_w, i32_w]; rfl
           refine sT (v := ?_) (a' := ?_) 4 64 (sM 11 95) HT_ HW_ hHeld ?_ ?_ ?_; rotate_left 2
           ·rintro w' ⟨s0, s1, s2, s3⟩; go_simp; with_reducible rfl
           ·simp only [Act.put, sI, sZ, sV, i64_w, i32_w]; rfl
           refine join_ (σ := Value × Value × Nat) 1 (sM 11 1023) (fun s_ => [(65, s_.1), (67, s_.2.1), (13, .pointer (some ⟨s_.2.2, 0, none⟩)), (68, .agg #[.int .i64 a0_0, .slice Ao26 t105.length co26, s_.2.1])]) (fun s_ w' => (w'.cell? ⟨gb101, 0, none⟩ = some (.int .i64 a0_0) ∧ w'.cell? ⟨gb101, 1, none⟩ = some (.slice A0_1 l0_1.length c0_1) ∧ w'.cell? ⟨gb101, 2, none⟩ = some (.slice A0_2 l0_2.length c0_2) ∧ w'.cell? ⟨gb109, 0, none⟩ = some (.slice Ao26 t105.length co26)) ∧ (Kd.R (Kd.int .i64) 3 w' w.heap.size (fun k_ => some k_ ≠ (u10 : Value).ownBlock ∧ some k_ ≠ (v114 : Value).ownBlock) s_.2.1 t124) ∧ (Kd.R (Kd.int .i64) 3 w' w.heap.size (fun k_ => some k_ ≠ (s_.2.1 : Value).ownBlock ∧ some k_ ≠ (v114 : Value).ownBlock) u10 x10_2) ∧ (Kd.R (Kd.int .i64) 3 w' w.heap.size (fun k_ => some k_ ≠ (s_.2.1 : Value).ownBlock ∧ some k_ ≠ (u10 : Value).ownBlock) v114 y113) ∧ (Kd.R k59 59 w' w.heap.size (fun _ => True) (.slice Ao26 t105.length co26) t105) ∧ (w'.heap[gb101]? = some (.cells #[.int .i64 a0_0, .slice A0_1 l0_1.length c0_1, .slice A0_2 l0_2.length c0_2] 31 (0, 0))) ∧ (w'.heap[gb102]? = some (.cells #[.int .i64 0, .slice none 0 0, .slice none 0 0] 31 (0, 0))) ∧ (w'.heap[gb109]? = some (.cells #[.slice Ao26 t105.length co26] 29 (0, 0))) ∧ (w'.heap[s_.2.2]? = some (.cells #[.int .i64 0, .slice none 0 0, .slice none 0 0] 31 (0, 0))) ∧ (w.heap.size ≤ s_.2.2) ∧ (w.heap.size ≤ s_.2.2) ∧ (gb101 ≠ s_.2.2) ∧ (s_.2.2 ≠ gb101) ∧ (gb102 ≠ s_.2.2) ∧ (s_.2.2 ≠ gb102) ∧ (gb109 ≠ s_.2.2) ∧ (s_.2.2 ≠ gb109) ∧ (Below w.heap.size w w')) ?_ ?_
           rotate_left
           ·intro hCont
            refine two_ (i := 5) (j := 9) (Ni := some 65) (Nj := some 13) (sM 11 127) (sM 11 607) rfl rfl rfl rfl (two_of HT_.out (by kernel_rfl)) (by decide) (by decide) (fun K hK => ?_) (fun K hK => ?_)
            ·skip
             refine goes_ Try.func39 (by kernel_rfl) rfl #[.slice A0_2 l0_2.length c0_2] (by rfl) rfl rfl sG ?_
             with_reducible refine (slices_Clone_int_int.calls _ _ l0_2 t121 _ ?side1 ?side2 A60.out).mono ?_
             (case side1 => exact sK (Kd.C_below HR0_2.out HB.out))
             (case side2 => exact HC0_2.out)
             rintro e w68 ⟨v122, rfl, ho0, hb⟩
             refine ⟨_, rfl, ?_⟩
             replace HO_110000 := sS HO_110000 hb
             have HO123 := sA (Kd.R_lower (Kd.R_new' (Kd.R_new' ho0 (Kd.R_lt (sR HO_10.out))) (Kd.R_lt (sR HO_11.out))) (below_size sH))
             replace HO_10 := sA (Kd.R_elder' (sR HO_10.out) (Kd.R_base ho0) hb)
             replace HO_11 := sA (Kd.R_elder' (sR HO_11.out) (Kd.R_base ho0) hb)
             replace BK101 := sJ BK101 hb
             replace BK102 := sJ BK102 hb
             replace BK109 := sJ BK109 hb
             replace HB := sA (below_step sH hb)
             (try clear hb)
             (try clear hb2)
             (try clear hk)
             (try clear hi)
             (try clear ho0)
             obtain ⟨Ao69, co69, eo69⟩ := Kd.R_slice HO123.out
             (first | subst eo69 | (injection eo69 with f1_ f2_ f3_; have f4_ := f1_.symm; have f5_ := f3_.symm; clear f1_ f2_ f3_; subst f4_; subst f5_))
             refine hK.out _ _ ⟨sC BK101 0 rfl, sC BK101 1 rfl, sC BK101 2 rfl, sC BK109 0 rfl⟩ (fun hHeld => ?_)
             clear hK K
             refine norm_ (a' := ?_) ?_ ?_
             rotate_left
             ·show Act.put _ (some 65) _ = _
              simp only [Act.put, sI, sZ, sV, i64_w, i32_w]
              rfl
             refine two_ (i := 7) (j := 9) (Ni := some 67) (Nj := some 13) (sM 11 255) (sM 11 639) rfl rfl rfl rfl (two_of HT_.out (by kernel_rfl)) (by decide) (by decide) (fun K hK => ?_) (fun K hK => ?_)
             ·skip
              refine goes_ Try.func46 (by kernel_rfl) rfl #[.slice Ao69 t121.length co69, .func (.func 47) #[] #[.pointer (some ⟨gb109, 0, none⟩)]] (by rfl) rfl rfl sG ?_
              with_reducible refine (slices_DeleteFunc_int_int.calls (fun k_ => some k_ = (.slice Ao69 t121.length co69 : Value).ownBlock) (.slice Ao69 t121.length co69) t121 Ao26 co26 t105 t124 w _ ?side1 ?side2 ?side3 ?side4 A61.out (B := gb109) ?sideI).mono ?_
              (case sideI => exact fun W_ hkp => (blk_cell (blk_kept (sB BK109.out) hkp (fun hs_ => (fun e_ => (Kd.R_ne HO123.out BK109.out (by decide)) e_) hs_)) 0).trans rfl)
              (case side1 => repeat (first | (with_reducible first | exact HB.out | apply sLA | apply sLN | apply sLD | refine sLS ?_ GE101.out | refine sLS ?_ GE102.out | refine sLS ?_ GE109.out) | exact HB.out))
              (case side2 => exact Kd.R_tight rfl HO123.out)
              (case side3 => exact Kd.C_kept_own ((Kd.R_apart' HO_110000.out (Kd.R_typed HO123.out) (by decide))) (fun k_ hk_ hs_ => (hk_.2) hs_))
              (case side4 => exact (Kd.R_reads' HO_110000.out).2.1)
              rintro e w70 ⟨v125, rfl, ho0, hb, hkp⟩
              refine ⟨_, rfl, ?_⟩
              replace HO_110000 := sA (Kd.R_mono (ok' := fun k_ => True) (Kd.R_keptB ((Kd.R_apart' HO_110000.out (Kd.R_typed HO123.out) (by decide))) hkp (fun k_ hk_ hs_ => (hk_.2) hs_)) (fun k_ hk_ => trivial))
              replace BK101 := sA (blk_kept (sB BK101.out) hkp (fun hs_ => (fun e_ => (Kd.R_ne HO123.out BK101.out (by decide)) e_) hs_))
              replace BK102 := sA (blk_kept (sB BK102.out) hkp (fun hs_ => (fun e_ => (Kd.R_ne HO123.out BK102.out (by decide)) e_) hs_))
              replace BK109 := sA (blk_kept (sB BK109.out) hkp (fun hs_ => (fun e_ => (Kd.R_ne HO123.out BK109.out (by decide)) e_) hs_))
              have HO126 := sA (Kd.R_mono (ok' := fun k_ => some k_ ≠ (u10 : Value).ownBlock ∧ some k_ ≠ (v114 : Value).ownBlock) ho0 (fun k_ hk_ => ⟨Or.elim hk_ (fun hs_ => fun e_ => (((HO_10.out).1 k_ e_.symm).2) hs_) (fun hn_ => (Kd.fresh' (Kd.R_lt (sR HO_10.out)) k_ hn_)), Or.elim hk_ (fun hs_ => fun e_ => (((HO_11.out).1 k_ e_.symm).2) hs_) (fun hn_ => (Kd.fresh' (Kd.R_lt (sR HO_11.out)) k_ hn_))⟩))
              replace HO_10 := sA (Kd.R_mono (ok' := fun k_ => some k_ ≠ (v114 : Value).ownBlock ∧ some k_ ≠ (v125 : Value).ownBlock) (Kd.R_keptB (HO_10.out) hkp (fun k_ hk_ hs_ => (hk_.2) hs_)) (fun k_ hk_ => ⟨hk_.1.1, fun e_ => Or.elim (ho0.1 k_ e_.symm) (fun hs_ => hk_.2.1 hs_) (fun hn_ => Nat.not_le.2 hk_.2.2 hn_)⟩))
              replace HO_11 := sA (Kd.R_mono (ok' := fun k_ => some k_ ≠ (u10 : Value).ownBlock ∧ some k_ ≠ (v125 : Value).ownBlock) (Kd.R_keptB (HO_11.out) hkp (fun k_ hk_ hs_ => (hk_.2) hs_)) (fun k_ hk_ => ⟨hk_.1.1, fun e_ => Or.elim (ho0.1 k_ e_.symm) (fun hs_ => hk_.2.1 hs_) (fun hn_ => Nat.not_le.2 hk_.2.2 hn_)⟩))
              replace HB := sA (hb)
              clear HO123
              (try clear hb)
              (try clear hkp)
              (try clear ho0)
              obtain ⟨Ao71, co71, eo71⟩ := Kd.R_slice HO126.out
              (first | subst eo71 | (injection eo71 with f1_ f2_ f3_; have f4_ := f1_.symm; have f5_ := f3_.symm; clear f1_ f2_ f3_; subst f4_; subst f5_))
              refine hK.out _ _ ⟨sC BK101 0 rfl, sC BK101 1 rfl, sC BK101 2 rfl, sC BK109 0 rfl⟩ (fun hHeld => ?_)
              clear hK K
              refine norm_ (a' := ?_) ?_ ?_
              rotate_left
              ·show Act.put _ (some 67) _ = _
               simp only [Act.put, sI, sZ, sV, i64_w, i32_w]
               rfl
              refine sP (v := ?_) (a' := ?_) 8 68 (sM 11 511) HT_ ?_ ?_ ?_; rotate_left 2
              ·intro w'; go_simp; with_reducible rfl
              ·simp only [Act.put, sI, sZ, sV, i64_w, i32_w]; rfl
              refine one_ (i := 9) (N := some 13) (sM 11 1023) rfl rfl (one_of HT_.out (by kernel_rfl)) (by decide) (fun K hK => ?_)
              refine box_step ?hg (N := 13) ?hd (cs := #[.int .i64 0, .slice none 0 0, .slice none 0 0]) (t := 31) ?hr ?_; (case hd => rfl); (case hg => rfl); (case hr => first | (go_simp; done) | (go_simp; rfl))
              intro gb127 hg w72 hbox hb
              replace HO_10 := sS HO_10 hb
              replace HO_11 := sS HO_11 hb
              replace HO_110000 := sS HO_110000 hb
              replace HO126 := sS HO126 hb
              have BK127 := sA (hbox)
              have GW127 := sA ((by rw [hg]; exact (below_size sH) : w.heap.size ≤ gb127))
              have GE127 := sA ((by rw [hg]; exact (below_size sH) : w.heap.size ≤ gb127))
              replace HB := sA (below_step sH hb)
              have NB101_127 := sA ((by rw [hg]; exact Nat.ne_of_lt (blk_lt (sB BK101.out)) : gb101 ≠ gb127))
              have NB127_101 := sA ((by rw [hg]; exact Nat.ne_of_gt (blk_lt (sB BK101.out)) : gb127 ≠ gb101))
              replace BK101 := sJ BK101 hb
              have NB102_127 := sA ((by rw [hg]; exact Nat.ne_of_lt (blk_lt (sB BK102.out)) : gb102 ≠ gb127))
              have NB127_102 := sA ((by rw [hg]; exact Nat.ne_of_gt (blk_lt (sB BK102.out)) : gb127 ≠ gb102))
              replace BK102 := sJ BK102 hb
              have NB109_127 := sA ((by rw [hg]; exact Nat.ne_of_lt (blk_lt (sB BK109.out)) : gb109 ≠ gb127))
              have NB127_109 := sA ((by rw [hg]; exact Nat.ne_of_gt (blk_lt (sB BK109.out)) : gb127 ≠ gb109))
              replace BK109 := sJ BK109 hb
              clear hb hbox hg
              refine hK.out _ _ ⟨sC BK101 0 rfl, sC BK101 1 rfl, sC BK101 2 rfl, sC BK109 0 rfl⟩ (fun hHeld => ?_)
              clear hK K
              refine norm_ (a' := ?_) ?_ ?_
              rotate_left
              ·show Act.put _ (some 13) _ = _
               simp only [Act.put, sI, sZ, sV, i64_w, i32_w]
               rfl
              exact norm_ (by simp only [putAll, Act.put, sI, sZ, sV]) (hCont (.slice Ao69 t121.length co69, .slice Ao71 t124.length co71, gb127) _ ⟨hHeld, (sR HO126.out), (sR (Kd.R_mono HO_10.out (fun _ hk => ⟨hk.2, hk.1⟩))), (sR (Kd.R_mono HO_11.out (fun _ hk => ⟨hk.2, hk.1⟩))), (sR HO_110000.out), (sB BK101.out), (sB BK102.out), (sB BK109.out), (sB BK127.out), GW127.out, GE127.out, NB101_127.out, NB127_101.out, NB102_127.out, NB127_102.out, NB109_127.out, NB127_109.out, sH⟩)
             ·skip
              refine box_step ?hg (N := 13) ?hd (cs := #[.int .i64 0, .slice none 0 0, .slice none 0 0]) (t := 31) ?hr ?_; (case hd => rfl); (case hg => rfl); (case hr => first | (go_simp; done) | (go_simp; rfl))
              intro gb127 hg w69 hbox hb
              replace HO_10 := sS HO_10 hb
              replace HO_11 := sS HO_11 hb
              replace HO_110000 := sS HO_110000 hb
              replace HO123 := sS HO123 hb
              have BK127 := sA (hbox)
              have GW127 := sA ((by rw [hg]; exact (below_size sH) : w.heap.size ≤ gb127))
              have GE127 := sA ((by rw [hg]; exact (below_size sH) : w.heap.size ≤ gb127))
              replace HB := sA (below_step sH hb)
              have NB101_127 := sA ((by rw [hg]; exact Nat.ne_of_lt (blk_lt (sB BK101.out)) : gb101 ≠ gb127))
              have NB127_101 := sA ((by rw [hg]; exact Nat.ne_of_gt (blk_lt (sB BK101.out)) : gb127 ≠ gb101))
              replace BK101 := sJ BK101 hb
              have NB102_127 := sA ((by rw [hg]; exact Nat.ne_of_lt (blk_lt (sB BK102.out)) : gb102 ≠ gb127))
              have NB127_102 := sA ((by rw [hg]; exact Nat.ne_of_gt (blk_lt (sB BK102.out)) : gb127 ≠ gb102))
              replace BK102 := sJ BK102 hb
              have NB109_127 := sA ((by rw [hg]; exact Nat.ne_of_lt (blk_lt (sB BK109.out)) : gb109 ≠ gb127))
              have NB127_109 := sA ((by rw [hg]; exact Nat.ne_of_gt (blk_lt (sB BK109.out)) : gb127 ≠ gb109))
              replace BK109 := sJ BK109 hb
              clear hb hbox hg
              obtain ⟨Ao70, co70, eo70⟩ := Kd.R_slice HO123.out
              (first | subst eo70 | (injection eo70 with f1_ f2_ f3_; have f4_ := f1_.symm; have f5_ := f3_.symm; clear f1_ f2_ f3_; subst f4_; subst f5_))
              refine hK.out _ _ ⟨sC BK101 0 rfl, sC BK101 1 rfl, sC BK101 2 rfl, sC BK109 0 rfl⟩ (fun hHeld => ?_)
              clear hK K
              refine norm_ (a' := ?_) ?_ ?_
              rotate_left
              ·show Act.put _ (some 13) _ = _
               simp only [Act.put, sI, sZ, sV, i64_w, i32_w]
               rfl
              refine one_ (i := 7) (N := some 67) (sM 11 767) rfl rfl (one_of HT_.out (by kernel_rfl)) (by decide) (fun K hK => ?_)
              refine goes_ Try.func46 (by kernel_rfl) rfl #[.slice Ao70 t121.length co70, .func (.func 47) #[] #[.pointer (some ⟨gb109, 0, none⟩)]] (by rfl) rfl rfl sG ?_
              with_reducible refine (slices_DeleteFunc_int_int.calls (fun k_ => some k_ = (.slice Ao70 t121.length co70 : Value).ownBlock) (.slice Ao70 t121.length co70) t121 Ao26 co26 t105 t124 w _ ?side1 ?side2 ?side3 ?side4 A61.out (B := gb109) ?sideI).mono ?_
              (case sideI => exact fun W_ hkp => (blk_cell (blk_kept (sB BK109.out) hkp (fun hs_ => (fun e_ => (Kd.R_ne HO123.out BK109.out (by decide)) e_) hs_)) 0).trans rfl)
              (case side1 => repeat (first | (with_reducible first | exact HB.out | apply sLA | apply sLN | apply sLD | refine sLS ?_ GE101.out | refine sLS ?_ GE102.out | refine sLS ?_ GE109.out | refine sLS ?_ GE127.out) | exact HB.out))
              (case side2 => exact Kd.R_tight rfl HO123.out)
              (case side3 => exact Kd.C_kept_own ((Kd.R_apart' HO_110000.out (Kd.R_typed HO123.out) (by decide))) (fun k_ hk_ hs_ => (hk_.2) hs_))
              (case side4 => exact (Kd.R_reads' HO_110000.out).2.1)
              rintro e w71 ⟨v125, rfl, ho0, hb, hkp⟩
              refine ⟨_, rfl, ?_⟩
              replace HO_110000 := sA (Kd.R_mono (ok' := fun k_ => True) (Kd.R_keptB ((Kd.R_apart' HO_110000.out (Kd.R_typed HO123.out) (by decide))) hkp (fun k_ hk_ hs_ => (hk_.2) hs_)) (fun k_ hk_ => trivial))
              replace BK101 := sA (blk_kept (sB BK101.out) hkp (fun hs_ => (fun e_ => (Kd.R_ne HO123.out BK101.out (by decide)) e_) hs_))
              replace BK102 := sA (blk_kept (sB BK102.out) hkp (fun hs_ => (fun e_ => (Kd.R_ne HO123.out BK102.out (by decide)) e_) hs_))
              replace BK109 := sA (blk_kept (sB BK109.out) hkp (fun hs_ => (fun e_ => (Kd.R_ne HO123.out BK109.out (by decide)) e_) hs_))
              replace BK127 := sA (blk_kept (sB BK127.out) hkp (fun hs_ => (fun e_ => (Kd.R_ne HO123.out BK127.out (by decide)) e_) hs_))
              have HO126 := sA (Kd.R_mono (ok' := fun k_ => some k_ ≠ (u10 : Value).ownBlock ∧ some k_ ≠ (v114 : Value).ownBlock) ho0 (fun k_ hk_ => ⟨Or.elim hk_ (fun hs_ => fun e_ => (((HO_10.out).1 k_ e_.symm).2) hs_) (fun hn_ => (Kd.fresh' (Kd.R_lt (sR HO_10.out)) k_ hn_)), Or.elim hk_ (fun hs_ => fun e_ => (((HO_11.out).1 k_ e_.symm).2) hs_) (fun hn_ => (Kd.fresh' (Kd.R_lt (sR HO_11.out)) k_ hn_))⟩))
              replace HO_10 := sA (Kd.R_mono (ok' := fun k_ => some k_ ≠ (v114 : Value).ownBlock ∧ some k_ ≠ (v125 : Value).ownBlock) (Kd.R_keptB (HO_10.out) hkp (fun k_ hk_ hs_ => (hk_.2) hs_)) (fun k_ hk_ => ⟨hk_.1.1, fun e_ => Or.elim (ho0.1 k_ e_.symm) (fun hs_ => hk_.2.1 hs_) (fun hn_ => Nat.not_le.2 hk_.2.2 hn_)⟩))
              replace HO_11 := sA (Kd.R_mono (ok' := fun k_ => some k_ ≠ (u10 : Value).ownBlock ∧ some k_ ≠ (v125 : Value).ownBlock) (Kd.R_keptB (HO_11.out) hkp (fun k_ hk_ hs_ => (hk_.2) hs_)) (fun k_ hk_ => ⟨hk_.1.1, fun e_ => Or.elim (ho0.1 k_ e_.symm) (fun hs_ => hk_.2.1 hs_) (fun hn_ => Nat.not_le.2 hk_.2.2 hn_)⟩))
              replace HB := sA (hb)
              clear HO123
              (try clear hb)
              (try clear hkp)
              (try clear ho0)
              obtain ⟨Ao72, co72, eo72⟩ := Kd.R_slice HO126.out
              (first | subst eo72 | (injection eo72 with f1_ f2_ f3_; have f4_ := f1_.symm; have f5_ := f3_.symm; clear f1_ f2_ f3_; subst f4_; subst f5_))
              refine hK.out _ _ ⟨sC BK101 0 rfl, sC BK101 1 rfl, sC BK101 2 rfl, sC BK109 0 rfl⟩ (fun hHeld => ?_)
              clear hK K
              refine norm_ (a' := ?_) ?_ ?_
              rotate_left
              ·show Act.put _ (some 67) _ = _
               simp only [Act.put, sI, sZ, sV, i64_w, i32_w]
               rfl
              refine sP (v := ?_) (a' := ?_) 8 68 (sM 11 1023) HT_ ?_ ?_ ?_; rotate_left 2
              ·intro w'; go_simp; with_reducible rfl
              ·simp only [Act.put, sI, sZ, sV, i64_w, i32_w]; rfl
              exact norm_ (by simp only [putAll, Act.put, sI, sZ, sV]) (hCont (.slice Ao70 t121.length co70, .slice Ao72 t124.length co72, gb127) _ ⟨hHeld, (sR HO126.out), (sR (Kd.R_mono HO_10.out (fun _ hk => ⟨hk.2, hk.1⟩))), (sR (Kd.R_mono HO_11.out (fun _ hk => ⟨hk.2, hk.1⟩))), (sR HO_110000.out), (sB BK101.out), (sB BK102.out), (sB BK109.out), (sB BK127.out), GW127.out, GE127.out, NB101_127.out, NB127_101.out, NB102_127.out, NB127_102.out, NB109_127.out, NB127_109.out, sH⟩)
            ·skip
             refine box_step ?hg (N := 13) ?hd (cs := #[.int .i64 0, .slice none 0 0, .slice none 0 0]) (t := 31) ?hr ?_; (case hd => rfl); (case hg => rfl); (case hr => first | (go_simp; done) | (go_simp; rfl))
             intro gb127 hg w68 hbox hb
             replace HO_10 := sS HO_10 hb
             replace HO_11 := sS HO_11 hb
             replace HO_110000 := sS HO_110000 hb
             have BK127 := sA (hbox)
             have GW127 := sA ((by rw [hg]; exact (below_size sH) : w.heap.size ≤ gb127))
             have GE127 := sA ((by rw [hg]; exact (below_size sH) : w.heap.size ≤ gb127))
             replace HB := sA (below_step sH hb)
             have NB101_127 := sA ((by rw [hg]; exact Nat.ne_of_lt (blk_lt (sB BK101.out)) : gb101 ≠ gb127))
             have NB127_101 := sA ((by rw [hg]; exact Nat.ne_of_gt (blk_lt (sB BK101.out)) : gb127 ≠ gb101))
             replace BK101 := sJ BK101 hb
             have NB102_127 := sA ((by rw [hg]; exact Nat.ne_of_lt (blk_lt (sB BK102.out)) : gb102 ≠ gb127))
             have NB127_102 := sA ((by rw [hg]; exact Nat.ne_of_gt (blk_lt (sB BK102.out)) : gb127 ≠ gb102))
             replace BK102 := sJ BK102 hb
             have NB109_127 := sA ((by rw [hg]; exact Nat.ne_of_lt (blk_lt (sB BK109.out)) : gb109 ≠ gb127))
             have NB127_109 := sA ((by rw [hg]; exact Nat.ne_of_gt (blk_lt (sB BK109.out)) : gb127 ≠ gb109))
             replace BK109 := sJ BK109 hb
             clear hb hbox hg
             refine hK.out _ _ ⟨sC BK101 0 rfl, sC BK101 1 rfl, sC BK101 2 rfl, sC BK109 0 rfl⟩ (fun hHeld => ?_)
             clear hK K
             refine norm_ (a' := ?_) ?_ ?_
             rotate_left
             ·show Act.put _ (some 13) _ = _
              simp only [Act.put, sI, sZ, sV, i64_w, i32_w]
              rfl
             refine one_ (i := 5) (N := some 65) (sM 11 639) rfl rfl (one_of HT_.out (by kernel_rfl)) (by decide) (fun K hK => ?_)
             refine goes_ Try.func39 (by kernel_rfl) rfl #[.slice A0_2 l0_2.length c0_2] (by rfl) rfl rfl sG ?_
             with_reducible refine (slices_Clone_int_int.calls _ _ l0_2 t121 _ ?side1 ?side2 A60.out).mono ?_
             (case side1 => exact sK (Kd.C_below HR0_2.out HB.out))
             (case side2 => exact HC0_2.out)
             rintro e w69 ⟨v122, rfl, ho0, hb⟩
             refine ⟨_, rfl, ?_⟩
             replace HO_110000 := sS HO_110000 hb
             have HO123 := sA (Kd.R_lower (Kd.R_new' (Kd.R_new' ho0 (Kd.R_lt (sR HO_10.out))) (Kd.R_lt (sR HO_11.out))) (below_size sH))
             replace HO_10 := sA (Kd.R_elder' (sR HO_10.out) (Kd.R_base ho0) hb)
             replace HO_11 := sA (Kd.R_elder' (sR HO_11.out) (Kd.R_base ho0) hb)
             replace BK101 := sJ BK101 hb
             replace BK102 := sJ BK102 hb
             replace BK109 := sJ BK109 hb
             replace BK127 := sJ BK127 hb
             replace HB := sA (below_step sH hb)
             (try clear hb)
             (try clear hb2)
             (try clear hk)
             (try clear hi)
             (try clear ho0)
             obtain ⟨Ao70, co70, eo70⟩ := Kd.R_slice HO123.out
             (first | subst eo70 | (injection eo70 with f1_ f2_ f3_; have f4_ := f1_.symm; have f5_ := f3_.symm; clear f1_ f2_ f3_; subst f4_; subst f5_))
             refine hK.out _ _ ⟨sC BK101 0 rfl, sC BK101 1 rfl, sC BK101 2 rfl, sC BK109 0 rfl⟩ (fun hHeld => ?_)
             clear hK K
             refine norm_ (a' := ?_) ?_ ?_
             rotate_left
             ·show Act.put _ (some 65) _ = _
              simp only [Act.put, sI, sZ, sV, i64_w, i32_w]
              rfl
             refine one_ (i := 7) (N := some 67) (sM 11 767) rfl rfl (one_of HT_.out (by kernel_rfl)) (by decide) (fun K hK => ?_)
             refine goes_ Try.func46 (by kernel_rfl) rfl #[.slice Ao70 t121.length co70, .func (.func 47) #[] #[.pointer (some ⟨gb109, 0, none⟩)]] (by rfl) rfl rfl sG ?_
             with_reducible refine (slices_DeleteFunc_int_int.calls (fun k_ => some k_ = (.slice Ao70 t121.length co70 : Value).ownBlock) (.slice Ao70 t121.length co70) t121 Ao26 co26 t105 t124 w _ ?side1 ?side2 ?side3 ?side4 A61.out (B := gb109) ?sideI).mono ?_
             (case sideI => exact fun W_ hkp => (blk_cell (blk_kept (sB BK109.out) hkp (fun hs_ => (fun e_ => (Kd.R_ne HO123.out BK109.out (by decide)) e_) hs_)) 0).trans rfl)
             (case side1 => repeat (first | (with_reducible first | exact HB.out | apply sLA | apply sLN | apply sLD | refine sLS ?_ GE101.out | refine sLS ?_ GE102.out | refine sLS ?_ GE109.out | refine sLS ?_ GE127.out) | exact HB.out))
             (case side2 => exact Kd.R_tight rfl HO123.out)
             (case side3 => exact Kd.C_kept_own ((Kd.R_apart' HO_110000.out (Kd.R_typed HO123.out) (by decide))) (fun k_ hk_ hs_ => (hk_.2) hs_))
             (case side4 => exact (Kd.R_reads' HO_110000.out).2.1)
             rintro e w71 ⟨v125, rfl, ho0, hb, hkp⟩
             refine ⟨_, rfl, ?_⟩
             replace HO_110000 := sA (Kd.R_mono (ok' := fun k_ => True) (Kd.R_keptB ((Kd.R_apart' HO_110000.out (Kd.R_typed HO123.out) (by decide))) hkp (fun k_ hk_ hs_ => (hk_.2) hs_)) (fun k_ hk_ => trivial))
             replace BK101 := sA (blk_kept (sB BK101.out) hkp (fun hs_ => (fun e_ => (Kd.R_ne HO123.out BK101.out (by decide)) e_) hs_))
             replace BK102 := sA (blk_kept (sB BK102.out) hkp (fun hs_ => (fun e_ => (Kd.R_ne HO123.out BK102.out (by decide)) e_) hs_))
             replace BK109 := sA (blk_kept (sB BK109.out) hkp (fun hs_ => (fun e_ => (Kd.R_ne HO123.out BK109.out (by decide)) e_) hs_))
             replace BK127 := sA (blk_kept (sB BK127.out) hkp (fun hs_ => (fun e_ => (Kd.R_ne HO123.out BK127.out (by decide)) e_) hs_))
             have HO126 := sA (Kd.R_mono (ok' := fun k_ => some k_ ≠ (u10 : Value).ownBlock ∧ some k_ ≠ (v114 : Value).ownBlock) ho0 (fun k_ hk_ => ⟨Or.elim hk_ (fun hs_ => fun e_ => (((HO_10.out).1 k_ e_.symm).2) hs_) (fun hn_ => (Kd.fresh' (Kd.R_lt (sR HO_10.out)) k_ hn_)), Or.elim hk_ (fun hs_ => fun e_ => (((HO_11.out).1 k_ e_.symm).2) hs_) (fun hn_ => (Kd.fresh' (Kd.R_lt (sR HO_11.out)) k_ hn_))⟩))
             replace HO_10 := sA (Kd.R_mono (ok' := fun k_ => some k_ ≠ (v114 : Value).ownBlock ∧ some k_ ≠ (v125 : Value).ownBlock) (Kd.R_keptB (HO_10.out) hkp (fun k_ hk_ hs_ => (hk_.2) hs_)) (fun k_ hk_ => ⟨hk_.1.1, fun e_ => Or.elim (ho0.1 k_ e_.symm) (fun hs_ => hk_.2.1 hs_) (fun hn_ => Nat.not_le.2 hk_.2.2 hn_)⟩))
             replace HO_11 := sA (Kd.R_mono (ok' := fun k_ => some k_ ≠ (u10 : Value).ownBlock ∧ some k_ ≠ (v125 : Value).ownBlock) (Kd.R_keptB (HO_11.out) hkp (fun k_ hk_ hs_ => (hk_.2) hs_)) (fun k_ hk_ => ⟨hk_.1.1, fun e_ => Or.elim (ho0.1 k_ e_.symm) (fun hs_ => hk_.2.1 hs_) (fun hn_ => Nat.not_le.2 hk_.2.2 hn_)⟩))
             replace HB := sA (hb)
             clear HO123
             (try clear hb)
             (try clear hkp)
             (try clear ho0)
             obtain ⟨Ao72, co72, eo72⟩ := Kd.R_slice HO126.out
             (first | subst eo72 | (injection eo72 with f1_ f2_ f3_; have f4_ := f1_.symm; have f5_ := f3_.symm; clear f1_ f2_ f3_; subst f4_; subst f5_))
             refine hK.out _ _ ⟨sC BK101 0 rfl, sC BK101 1 rfl, sC BK101 2 rfl, sC BK109 0 rfl⟩ (fun hHeld => ?_)
             clear hK K
             refine norm_ (a' := ?_) ?_ ?_
             rotate_left
             ·show Act.put _ (some 67) _ = _
              simp only [Act.put, sI, sZ, sV, i64_w, i32_w]
              rfl
             refine sP (v := ?_) (a' := ?_) 8 68 (sM 11 1023) HT_ ?_ ?_ ?_; rotate_left 2
             ·intro w'; go_simp; with_reducible rfl
             ·simp only [Act.put, sI, sZ, sV, i64_w, i32_w]; rfl
             exact norm_ (by simp only [putAll, Act.put, sI, sZ, sV]) (hCont (.slice Ao70 t121.length co70, .slice Ao72 t124.length co72, gb127) _ ⟨hHeld, (sR HO126.out), (sR (Kd.R_mono HO_10.out (fun _ hk => ⟨hk.2, hk.1⟩))), (sR (Kd.R_mono HO_11.out (fun _ hk => ⟨hk.2, hk.1⟩))), (sR HO_110000.out), (sB BK101.out), (sB BK102.out), (sB BK109.out), (sB BK127.out), GW127.out, GE127.out, NB101_127.out, NB127_101.out, NB102_127.out, NB127_102.out, NB109_127.out, NB127_109.out, sH⟩)
           rintro ⟨v122, v125, gb127⟩ w73 ⟨hS_, h0_, h1_, h2_, h3_, h4_, h5_, h6_, h7_, h8_, h9_, h10_, h11_, h12_, h13_, h14_, h15_, h16_⟩
           have n0_ : Aside0 (Kd.R (Kd.int .i64) 3 w73 w.heap.size (fun k_ => some k_ ≠ (u10 : Value).ownBlock ∧ some k_ ≠ (v114 : Value).ownBlock) v125 t124) := ⟨h0_⟩
           have n1_ : Aside0 (Kd.R (Kd.int .i64) 3 w73 w.heap.size (fun k_ => some k_ ≠ (v125 : Value).ownBlock ∧ some k_ ≠ (v114 : Value).ownBlock) u10 x10_2) := ⟨h1_⟩
           have n2_ : Aside0 (Kd.R (Kd.int .i64) 3 w73 w.heap.size (fun k_ => some k_ ≠ (v125 : Value).ownBlock ∧ some k_ ≠ (u10 : Value).ownBlock) v114 y113) := ⟨h2_⟩
           have n3_ : Aside0 (Kd.R k59 59 w73 w.heap.size (fun _ => True) (.slice Ao26 t105.length co26) t105) := ⟨h3_⟩
           have n4_ : Aside0 (w73.heap[gb101]? = some (.cells #[.int .i64 a0_0, .slice A0_1 l0_1.length c0_1, .slice A0_2 l0_2.length c0_2] 31 (0, 0))) := ⟨h4_⟩
           have n5_ : Aside0 (w73.heap[gb102]? = some (.cells #[.int .i64 0, .slice none 0 0, .slice none 0 0] 31 (0, 0))) := ⟨h5_⟩
           have n6_ : Aside0 (w73.heap[gb109]? = some (.cells #[.slice Ao26 t105.length co26] 29 (0, 0))) := ⟨h6_⟩
           have n7_ : Aside0 (w73.heap[gb127]? = some (.cells #[.int .i64 0, .slice none 0 0, .slice none 0 0] 31 (0, 0))) := ⟨h7_⟩
           have n8_ : Aside0 (w.heap.size ≤ gb127) := ⟨h8_⟩
           have n9_ : Aside0 (w.heap.size ≤ gb127) := ⟨h9_⟩
           have n10_ : Aside0 (gb101 ≠ gb127) := ⟨h10_⟩
           have n11_ : Aside0 (gb127 ≠ gb101) := ⟨h11_⟩
           have n12_ : Aside0 (gb102 ≠ gb127) := ⟨h12_⟩
           have n13_ : Aside0 (gb127 ≠ gb102) := ⟨h13_⟩
           have n14_ : Aside0 (gb109 ≠ gb127) := ⟨h14_⟩
           have n15_ : Aside0 (gb127 ≠ gb109) := ⟨h15_⟩
           have n16_ : Aside0 (Below w.heap.size w w73) := ⟨h16_⟩
           clear HO_10 HO_11 HO_110000 BK101 BK102 BK109 HB
           clear h0_ h1_ h2_ h3_ h4_ h5_ h6_ h7_ h8_ h9_ h10_ h11_ h12_ h13_ h14_ h15_ h16_
           have HO126 := n0_
           have HO_10 := n1_
           have HO_11 := n2_
           have HO_110000 := n3_
           have BK101 := n4_
           have BK102 := n5_
           have BK109 := n6_
           have BK127 := n7_
           have GW127 := n8_
           have GE127 := n9_
           have NB101_127 := n10_
           have NB127_101 := n11_
           have NB102_127 := n12_
           have NB127_102 := n13_
           have NB109_127 := n14_
           have NB127_109 := n15_
           have HB := n16_
           clear n0_ n1_ n2_ n3_ n4_ n5_ n6_ n7_ n8_ n9_ n10_ n11_ n12_ n13_ n14_ n15_ n16_
           have hHeld : w73.cell? ⟨gb101, 0, none⟩ = some (.int .i64 a0_0) ∧ w73.cell? ⟨gb101, 1, none⟩ = some (.slice A0_1 l0_1.length c0_1) ∧ w73.cell? ⟨gb101, 2, none⟩ = some (.slice A0_2 l0_2.length c0_2) ∧ w73.cell? ⟨gb109, 0, none⟩ = some (.slice Ao26 t105.length co26) := hS_
           obtain ⟨Ao74, co74, eo74⟩ := Kd.R_slice HO126.out
           (first | subst eo74 | (injection eo74 with f1_ f2_ f3_; have f4_ := f1_.symm; have f5_ := f3_.symm; clear f1_ f2_ f3_; subst f4_; subst f5_))
           refine norm_ (a' := ?_) ?_ ?_
           rotate_left
           ·simp only [putAll, Act.put, sI, sZ, sV]
            rfl
           refine one_ (i := 10) (N := none) (sM 11 2047) rfl rfl (one_of HT_.out (by kernel_rfl)) (by decide) (fun K hK => ?_)
           have hs75 : w73.cell? ⟨gb127, 0, none⟩ = some (.int .i64 0) := sC BK127 0 rfl
           have hfs75 := blk_frozen BK127.out 0
           have hns75_0 := NB101_127.out
           have hns75_1 := NB102_127.out
           have hns75_2 := NB109_127.out
           have hms75_0 := NB127_101.out
           have hms75_1 := NB127_102.out
           have hms75_2 := NB127_109.out
           have hs76 : w73.cell? ⟨gb127, 1, none⟩ = some (.slice none 0 0) := sC BK127 1 rfl
           have hfs76 := blk_frozen BK127.out 1
           have hns76_0 := NB101_127.out
           have hns76_1 := NB102_127.out
           have hns76_2 := NB109_127.out
           have hms76_0 := NB127_101.out
           have hms76_1 := NB127_102.out
           have hms76_2 := NB127_109.out
           have hs77 : w73.cell? ⟨gb127, 2, none⟩ = some (.slice none 0 0) := sC BK127 2 rfl
           have hfs77 := blk_frozen BK127.out 2
           have hns77_0 := NB101_127.out
           have hns77_1 := NB102_127.out
           have hns77_2 := NB109_127.out
           have hms77_0 := NB127_101.out
           have hms77_1 := NB127_102.out
           have hms77_2 := NB127_109.out
           refine skip_ (w1 := ?_) (by rfl) rfl ?_ ?_
           rotate_left
           ·go_simp
            rfl
           refine hK.out _ _ ⟨((cell_far (p := ⟨gb127, _, none⟩) NB101_127.out _).trans (((cell_far (p := ⟨gb127, _, none⟩) NB101_127.out _).trans (((cell_far (p := ⟨gb127, _, none⟩) NB101_127.out _).trans (hHeld.1)))))), ((cell_far (p := ⟨gb127, _, none⟩) NB101_127.out _).trans (((cell_far (p := ⟨gb127, _, none⟩) NB101_127.out _).trans (((cell_far (p := ⟨gb127, _, none⟩) NB101_127.out _).trans (hHeld.2.1)))))), ((cell_far (p := ⟨gb127, _, none⟩) NB101_127.out _).trans (((cell_far (p := ⟨gb127, _, none⟩) NB101_127.out _).trans (((cell_far (p := ⟨gb127, _, none⟩) NB101_127.out _).trans (hHeld.2.2.1)))))), ((cell_far (p := ⟨gb127, _, none⟩) NB109_127.out _).trans (((cell_far (p := ⟨gb127, _, none⟩) NB109_127.out _).trans (((cell_far (p := ⟨gb127, _, none⟩) NB109_127.out _).trans (hHeld.2.2.2))))))⟩ (fun hHeld => ?_)
           clear hK K
           refine done_ (done_of HT_.out (by kernel_rfl)) ?_
           have := NB109_101.out
           have := NB101_109.out
           have := NB109_102.out
           have := NB102_109.out
           have := NB109_127.out
           have := NB127_109.out
           obtain ⟨_, _⟩ := sD1 BK109
           have := NB127_101.out
           have := NB101_127.out
           have := NB127_102.out
           have := NB102_127.out
           obtain ⟨_, _, _, _, _, _⟩ := sD3 BK127
           have p128 : 0 ≤ ((ji63) : Int) := of_decide_eq_true (by first | (with_reducible assumption) | assumption)
           have q128 : (ji63) < (t105.length : Int) := of_decide_eq_true (by first | (with_reducible assumption) | assumption)
           obtain ⟨ad128, e128, hx128_0, hx128_1⟩ := at_T59 (Kd.R_reads' HO_110000.out).2.2 (ji63) p128 q128
           cases e128
           have hn128_0 : ad128.block ≠ gb127 := Kd.own_blk (Kd.R_ne HO_110000.out BK127.out (by decide))
           have hn128_1 : ad128.block ≠ gb127 := Kd.own_blk (Kd.R_ne HO_110000.out BK127.out (by decide))
           have hn128_2 : ad128.block ≠ gb127 := Kd.own_blk (Kd.R_ne HO_110000.out BK127.out (by decide))
           replace hx128_0 := (cell_far (p := ⟨gb127, 0, none⟩) (by first | (rw [add_block]; exact hn128_0) | (show (Addr.add _ _).block ≠ _; rw [add_block]; exact hn128_0) | exact hn128_0) (.int .i64 a0_0)).trans hx128_0
           replace hx128_1 := (cell_far (p := ⟨gb127, 0, none⟩) (by first | (rw [add_block]; exact hn128_0) | (show (Addr.add _ _).block ≠ _; rw [add_block]; exact hn128_0) | exact hn128_0) (.int .i64 a0_0)).trans hx128_1
           replace hx128_0 := (cell_far (p := ⟨gb127, 1, none⟩) (by first | (rw [add_block]; exact hn128_1) | (show (Addr.add _ _).block ≠ _; rw [add_block]; exact hn128_1) | exact hn128_1) (.slice (some ad128) t105.length co26)).trans hx128_0
           replace hx128_1 := (cell_far (p := ⟨gb127, 1, none⟩) (by first | (rw [add_block]; exact hn128_1) | (show (Addr.add _ _).block ≠ _; rw [add_block]; exact hn128_1) | exact hn128_1) (.slice (some ad128) t105.length co26)).trans hx128_1
           replace hx128_0 := (cell_far (p := ⟨gb127, 2, none⟩) (by first | (rw [add_block]; exact hn128_2) | (show (Addr.add _ _).block ≠ _; rw [add_block]; exact hn128_2) | exact hn128_2) (.slice Ao74 t124.length co74)).trans hx128_0
           replace hx128_1 := (cell_far (p := ⟨gb127, 2, none⟩) (by first | (rw [add_block]; exact hn128_2) | (show (Addr.add _ _).block ≠ _; rw [add_block]; exact hn128_2) | exact hn128_2) (.slice Ao74 t124.length co74)).trans hx128_1
           clear hn128_0 hn128_1 hn128_2
           replace p128 := eq_true p128
           replace q128 := eq_true q128
           try go_wp2_with (first | ((with_reducible refine gate_callee (f := 36) rfl ?_); refine goesL_ (some 80) rfl rfl Try.func36 (by kernel_rfl) rfl #[.pointer (some ⟨gb127, 0, none⟩)] rfl sG ?_; (with_reducible refine (impl_Span_82.calls2 k2 a0_0 (some ad128) co26 t105 Ao74 co74 t124 t129 _ ?side1 ?side2 ?side3 ?side4 A66.out (g := gb127) ?sideI).mono ?_); (case sideI => exact (by (with_reducible repeat first | apply blk_drewN | apply blk_drew | apply blk_alloc); refine blk_put (cs := #[.int .i64 a0_0, .slice (some ad128) t105.length co26, .slice none 0 0]) ?_ 2 _ rfl; (with_reducible repeat first | apply blk_drewN | apply blk_drew | apply blk_alloc); refine blk_put (cs := #[.int .i64 a0_0, .slice none 0 0, .slice none 0 0]) ?_ 1 _ rfl; (with_reducible repeat first | apply blk_drewN | apply blk_drew | apply blk_alloc); refine blk_put (cs := #[.int .i64 0, .slice none 0 0, .slice none 0 0]) ?_ 0 _ rfl; (with_reducible repeat first | apply blk_drewN | apply blk_drew | apply blk_alloc); exact BK127.out)); (case side1 => exact (Kd.R_reads' (sE HO_110000 BK127 (by decide))).2.2); (case side2 => exact (Kd.R_reads' HO_110000.out).2.1); (case side3 => exact (Kd.R_reads' (sE HO126 BK127 (by decide))).2.2); (case side4 => exact (Kd.R_reads' HO126.out).2.1); rintro e w85 ⟨v130, rfl, ho0, hb⟩; refine ⟨_, rfl, ?_⟩; replace HO_110000 := sA (Kd.R_below (sE HO_110000 BK127 (by decide)) hb); have HO131 := sA (Kd.R_lower (Kd.R_new' (Kd.R_new' (Kd.R_new' ho0 (Kd.R_lt (sE HO_10 BK127 (by decide)))) (Kd.R_lt (sE HO_11 BK127 (by decide)))) (Kd.R_lt (sE HO126 BK127 (by decide)))) (below_size sH)); replace HO_10 := sA (Kd.R_elder' (sE HO_10 BK127 (by decide)) (Kd.R_base ho0) hb); replace HO_11 := sA (Kd.R_elder' (sE HO_11 BK127 (by decide)) (Kd.R_base ho0) hb); replace HO126 := sA (Kd.R_elder' (sE HO126 BK127 (by decide)) (Kd.R_base ho0) hb); replace BK101 := sA (blk_below (g := gb101) (o := .cells #[.int .i64 a0_0, .slice A0_1 l0_1.length c0_1, .slice A0_2 l0_2.length c0_2] 31 (0, 0)) (sF BK101 NB101_127) hb); replace BK102 := sA (blk_below (g := gb102) (o := .cells #[.int .i64 0, .slice none 0 0, .slice none 0 0] 31 (0, 0)) (sF BK102 NB102_127) hb); replace BK109 := sA (blk_below (g := gb109) (o := .cells #[.slice (some ad128) t105.length co26] 29 (0, 0)) (sF BK109 NB109_127) hb); replace BK127 := sA (blk_below (g := gb127) (o := .cells #[.int .i64 a0_0, .slice (some ad128) t105.length co26, .slice Ao74 t124.length co74] 31 (0, 0)) (by (with_reducible repeat first | apply blk_drewN | apply blk_drew | apply blk_alloc); refine blk_put (cs := #[.int .i64 a0_0, .slice (some ad128) t105.length co26, .slice none 0 0]) ?_ 2 _ rfl; (with_reducible repeat first | apply blk_drewN | apply blk_drew | apply blk_alloc); refine blk_put (cs := #[.int .i64 a0_0, .slice none 0 0, .slice none 0 0]) ?_ 1 _ rfl; (with_reducible repeat first | apply blk_drewN | apply blk_drew | apply blk_alloc); refine blk_put (cs := #[.int .i64 0, .slice none 0 0, .slice none 0 0]) ?_ 0 _ rfl; (with_reducible repeat first | apply blk_drewN | apply blk_drew | apply blk_alloc); exact BK127.out) hb); replace HB := sA (below_step sH hb); (try clear hb); (try clear hb2); (try clear hk); (try clear hi); (try clear ho0); obtain ⟨Ao86, co86, eo86⟩ := Kd.R_slice HO131.out; subst eo86))
           go_loopg [11, 82] k2 (fun kq v11 v82 w' => ∃ (x11_3 : List Int) (x82_3 : Int), v82 = .int .i64 x82_3 ∧ Aside0 (impl_HearSpans.l1 kq x10_2 x11_3 (wrap64 (((rd_T59 t105 (ji63)).f1) - 1)) t129 (t129.length : Int) x82_3 a0_0 t105 t124 = some (r1, r2, r3, r4, r5, r6)) ∧ Aside0 (kq ≤ k2) ∧ Aside0 (Kd.R (Kd.int .i64) 3 w' w.heap.size (fun k_ => some k_ ≠ (v11 : Value).ownBlock ∧ some k_ ≠ ((.slice Ao86 t129.length co86) : Value).ownBlock ∧ some k_ ≠ ((.slice Ao74 t124.length co74) : Value).ownBlock) u10 x10_2) ∧ Aside0 (Kd.R (Kd.int .i64) 3 w' w.heap.size (fun k_ => some k_ ≠ (u10 : Value).ownBlock ∧ some k_ ≠ ((.slice Ao86 t129.length co86) : Value).ownBlock ∧ some k_ ≠ ((.slice Ao74 t124.length co74) : Value).ownBlock) v11 x11_3) ∧ Aside0 (Kd.R (Kd.int .i64) 3 w' w.heap.size (fun k_ => some k_ ≠ (u10 : Value).ownBlock ∧ some k_ ≠ (v11 : Value).ownBlock ∧ some k_ ≠ ((.slice Ao74 t124.length co74) : Value).ownBlock) (.slice Ao86 t129.length co86) t129) ∧ Aside0 (Kd.R k59 59 w' w.heap.size (fun _ => True) (.slice (some ad128) t105.length co26) t105) ∧ Aside0 (Kd.R k59 59 w' w.heap.size (fun _ => True) (.slice (some ad128) t105.length co26) t105) ∧ Aside0 (Kd.R (Kd.int .i64) 3 w' w.heap.size (fun k_ => some k_ ≠ (u10 : Value).ownBlock ∧ some k_ ≠ (v11 : Value).ownBlock ∧ some k_ ≠ ((.slice Ao86 t129.length co86) : Value).ownBlock) (.slice Ao74 t124.length co74) t124) ∧ Aside0 (w'.heap[gb101]? = some (.cells #[.int .i64 a0_0, (.slice A0_1 l0_1.length c0_1), (.slice A0_2 l0_2.length c0_2)] 31 (0, 0))) ∧ Aside0 (w'.heap[gb102]? = some (.cells #[.int .i64 0, (.slice none 0 0), (.slice none 0 0)] 31 (0, 0))) ∧ Aside0 (w'.heap[gb109]? = some (.cells #[(.slice (some ad128) t105.length co26)] 29 (0, 0))) ∧ Aside0 (w'.heap[gb127]? = some (.cells #[.int .i64 a0_0, (.slice (some ad128) t105.length co26), (.slice Ao74 t124.length co74)] 31 (0, 0))) ∧ Aside0 (Below w.heap.size w w'))
           case atStart => exact ⟨(y113), (0), (by first | rfl | (simp; done) | (simp [*]; done)), H', ⟨Nat.le_refl _⟩, ⟨sR (Kd.R_mono HO_10.out (fun _ hk => ⟨hk.1.2, ⟨hk.2, hk.1.1⟩⟩))⟩, ⟨sR (Kd.R_mono HO_11.out (fun _ hk => ⟨hk.1.2, ⟨hk.2, hk.1.1⟩⟩))⟩, ⟨sR (Kd.R_mono HO131.out (fun _ hk => ⟨hk.1.1.2, ⟨hk.1.2, hk.2⟩⟩))⟩, ⟨sR HO_110000.out⟩, ⟨sR HO_110000.out⟩, ⟨sR (Kd.R_mono HO126.out (fun _ hk => ⟨hk.1.1, ⟨hk.1.2, hk.2⟩⟩))⟩, ⟨sB BK101.out⟩, ⟨sB BK102.out⟩, ⟨sB BK109.out⟩, ⟨sB BK127.out⟩, ⟨sH⟩⟩
           case round =>
            clear H'
            (try clear p1); (try clear q1); (try clear hx1); (try clear p2); (try clear c3); (try clear c4); (try clear p6); (try clear c7); (try clear c8); (try clear p12); (try clear q12); (try clear hx12); (try clear c39); (try clear c46); (try clear p64); (try clear c78); (try clear c79); (try clear c80); (try clear c82); (try clear c83); (try clear hx128_0); (try clear hx128_1); (try clear p128); (try clear q128)
            obtain ⟨x11_3, x82_3, rfl, HA, HK3, HO_10, HO_11, HO_80, HO_110000, HO_128001, HO_128002, BK101, BK102, BK109, BK127, HB⟩ := hrel
            cases gk with
            | zero => exact absurd HA.out (by simp [impl_HearSpans.l1])
            | succ k3 =>
             have H := HA.out
             clear HA
             simp only [impl_HearSpans.l1] at H
             by_cases c87 : x82_3 < (t129.length : Int)
             ·rw [if_pos c87] at H
              have c87b0 : decide (x82_3 < (t129.length : Int)) = true := decide_eq_true c87
              clear c87
              by_cases c88 : 0 ≤ x82_3
              ·rw [if_pos c88] at H
               have c88b0 : decide (0 ≤ x82_3) = true := decide_eq_true c88
               clear c88
               by_cases c89 : x82_3 < (t129.length : Int)
               ·rw [if_pos c89] at H
                have c89b0 : decide (x82_3 < (t129.length : Int)) = true := decide_eq_true c89
                clear c89
                by_cases c90 : (wrap64 (((rd_T59 t105 (ji63)).f1) - 1)) ≥ (wrap64 ((rd t129 x82_3) + 3))
                ·rw [if_pos c90] at H
                 have c90b0 : decide ((wrap64 ((rd t129 x82_3) + 3)) ≤ (wrap64 (((rd_T59 t105 (ji63)).f1) - 1))) = true := decide_eq_true c90
                 clear c90
                 by_cases c91 : x11_3.length < 17592186044416
                 ·rw [if_pos c91] at H
                  have LMc91 := sA c91
                  clear c91
                  obtain ⟨y133, hy133⟩ : ∃ y_ : List Int, y_ = (x11_3 ++ [rd t129 x82_3]) := ⟨_, rfl⟩
                  replace H : (impl_HearSpans.l1 k3 x10_2 y133 (wrap64 (((rd_T59 t105 (ji63)).f1) - 1)) t129 (t129.length : Int) (wrap64 (x82_3 + 1)) a0_0 t105 t124) = some (r1, r2, r3, r4, r5, r6) := by first | (rw [hy133]; with_reducible exact H) | (have H2_ := (Option.bind_some _ _).symm.trans H; rw [hy133]; with_reducible exact H2_) | (have H2_ := (Option.bind_some _ _).symm.trans H; with_reducible exact H2_) | with_reducible exact H | (rw [hy133]; exact H) | exact H
                  have Ny133 := sA hy133
                  clear hy133
                  have H' := sA H
                  clear H
                  have p132 : 0 ≤ (x82_3 : Int) := of_decide_eq_true (by first | (with_reducible assumption) | assumption)
                  have q132 : x82_3 < (t129.length : Int) := of_decide_eq_true (by first | (with_reducible assumption) | assumption)
                  obtain ⟨ad132, e132, hx132_0⟩ := Kd.at_int (Kd.R_reads' HO_80.out).2.2 x82_3 p132 q132
                  cases e132
                  replace p132 := eq_true p132
                  replace q132 := eq_true q132
                  go_wp2_with (first | ((with_reducible refine gate_builtin (b := .append) (xs := #[.tmp 90, .tmp 92]) rfl ?_); at_builtin; refine Kd.R_append (Kd.int .i64) (w0 := w) w.heap.size rfl (.tmp 90) (.tmp 92) 23 3 (.int .i64 0) 8 rfl Try.underlying23 info3 rfl (by decide) (by omega) u11 x11_3 (rd t129 x82_3) [.int .i64 (rd t129 x82_3)] (fun k_ => some k_ ≠ (u10 : Value).ownBlock ∧ some k_ ≠ (.slice (some ad132) t129.length co86 : Value).ownBlock ∧ some k_ ≠ (.slice Ao74 t124.length co74 : Value).ownBlock) (fun _ => False) rfl rfl ?aP (fun _ hk => hk.elim) ?aF ?aO ?aB ?aS ?aL ?_; (case aP => exact rfl); (case aB => exact sH); (case aF => exact (fun k_ hk => ⟨Kd.fresh' (Kd.R_lt (sR HO_10.out)) k_ hk, Kd.fresh' (Kd.R_lt (sR HO_80.out)) k_ hk, Kd.fresh' (Kd.R_lt (sR HO_128002.out)) k_ hk⟩)); (case aO => exact (sR HO_11.out)); (case aS => exact (below_size sH)); (case aL => have := LMc91.out; omega); intro v134 w92 ho hb hg hat; rw [← Ny133.out] at ho; replace HO_10 := sA (Kd.R_after (ok := (fun k_ => some k_ ≠ (.slice (some ad132) t129.length co86 : Value).ownBlock ∧ some k_ ≠ (.slice Ao74 t124.length co74 : Value).ownBlock)) (sR (Kd.R_mono HO_10.out (fun _ hk => ⟨⟨hk.2.1, hk.2.2⟩, hk.1⟩))) hg hat); replace HO_80 := sA (Kd.R_after (ok := (fun k_ => some k_ ≠ (u10 : Value).ownBlock ∧ some k_ ≠ (.slice Ao74 t124.length co74 : Value).ownBlock)) (sR (Kd.R_mono HO_80.out (fun _ hk => ⟨⟨hk.1, hk.2.2⟩, hk.2.1⟩))) hg hat); replace HO_110000 := sA (Kd.R_over' (sR HO_110000.out) (Kd.R_typed (sR HO_11.out)) (by decide) hg); replace HO_128001 := sA (Kd.R_over' (sR HO_128001.out) (Kd.R_typed (sR HO_11.out)) (by decide) hg); replace HO_128002 := sA (Kd.R_after (ok := (fun k_ => some k_ ≠ (u10 : Value).ownBlock ∧ some k_ ≠ (.slice (some ad132) t129.length co86 : Value).ownBlock)) (sR (Kd.R_mono HO_128002.out (fun _ hk => ⟨⟨hk.1, hk.2.2⟩, hk.2.1⟩))) hg hat); replace BK101 := sA (blk_grown (g := gb101) (o := .cells #[.int .i64 a0_0, .slice A0_1 l0_1.length c0_1, .slice A0_2 l0_2.length c0_2] 31 (0, 0)) (sB BK101.out) hg (Kd.R_ne HO_11.out BK101.out (by decide))); replace BK102 := sA (blk_grown (g := gb102) (o := .cells #[.int .i64 0, .slice none 0 0, .slice none 0 0] 31 (0, 0)) (sB BK102.out) hg (Kd.R_ne HO_11.out BK102.out (by decide))); replace BK109 := sA (blk_grown (g := gb109) (o := .cells #[.slice (some ad128) t105.length co26] 29 (0, 0)) (sB BK109.out) hg (Kd.R_ne HO_11.out BK109.out (by decide))); replace BK127 := sA (blk_grown (g := gb127) (o := .cells #[.int .i64 a0_0, .slice (some ad128) t105.length co26, .slice Ao74 t124.length co74] 31 (0, 0)) (sB BK127.out) hg (Kd.R_ne HO_11.out BK127.out (by decide))); replace HB := sA (hb); have HO135 := sA (ho); clear HO_11; clear ho hb hg hat))
                  go_roundg k3
                  case measure => have := HJ2.out; have := HK2.out; have := HK3.out; omega
                  case rel => exact ⟨(y133), (wrap64 (x82_3 + 1)), (by first | rfl | (simp; done) | (simp [*]; done)), H', ⟨by have := HJ2.out; have := HK2.out; have := HK3.out; omega⟩, ⟨sR (Kd.R_mono HO_10.out (fun _ hk => ⟨hk.2, ⟨hk.1.1, hk.1.2⟩⟩))⟩, ⟨sR HO135.out⟩, ⟨sR (Kd.R_mono HO_80.out (fun _ hk => ⟨hk.1.1, ⟨hk.2, hk.1.2⟩⟩))⟩, ⟨sR HO_110000.out⟩, ⟨sR HO_128001.out⟩, ⟨sR (Kd.R_mono HO_128002.out (fun _ hk => ⟨hk.1.1, ⟨hk.2, hk.1.2⟩⟩))⟩, ⟨sB BK101.out⟩, ⟨sB BK102.out⟩, ⟨sB BK109.out⟩, ⟨sB BK127.out⟩, ⟨sH⟩⟩
                 ·rw [if_neg c91] at H
                  exact absurd H (by simp)
                ·rw [if_neg c90] at H
                 have c90b0 : decide ((wrap64 ((rd t129 x82_3) + 3)) ≤ (wrap64 (((rd_T59 t105 (ji63)).f1) - 1))) = false := decide_eq_false c90
                 clear c90
                 have H' := sA H
                 clear H
                 have p132 : 0 ≤ (x82_3 : Int) := of_decide_eq_true (by first | (with_reducible assumption) | assumption)
                 have q132 : x82_3 < (t129.length : Int) := of_decide_eq_true (by first | (with_reducible assumption) | assumption)
                 obtain ⟨ad132, e132, hx132_0⟩ := Kd.at_int (Kd.R_reads' HO_80.out).2.2 x82_3 p132 q132
                 cases e132
                 replace p132 := eq_true p132
                 replace q132 := eq_true q132
                 go_wp2
                 go_roundg k3
                 case measure => have := HJ2.out; have := HK2.out; have := HK3.out; omega
                 case rel => exact ⟨(x11_3), (wrap64 (x82_3 + 1)), (by first | rfl | (simp; done) | (simp [*]; done)), H', ⟨by have := HJ2.out; have := HK2.out; have := HK3.out; omega⟩, ⟨sR HO_10.out⟩, ⟨sR HO_11.out⟩, ⟨sR HO_80.out⟩, ⟨sR HO_110000.out⟩, ⟨sR HO_128001.out⟩, ⟨sR HO_128002.out⟩, ⟨sB BK101.out⟩, ⟨sB BK102.out⟩, ⟨sB BK109.out⟩, ⟨sB BK127.out⟩, ⟨sH⟩⟩
               ·rw [if_neg c89] at H
                exact absurd H (by simp)
              ·rw [if_neg c88] at H
               exact absurd H (by simp)
             ·rw [if_neg c87] at H
              have c87b0 : decide (x82_3 < (t129.length : Int)) = false := decide_eq_false c87
              clear c87
              by_cases c93 : t124.length + x11_3.length < 17592186044416
              ·rw [if_pos c93] at H
               have LMc93 := sA c93
               clear c93
               obtain ⟨y136, hy136⟩ : ∃ y_ : List Int, y_ = (t124 ++ x11_3) := ⟨_, rfl⟩
               replace H : ((slices_Sort_int_int.f y136).bind fun t139 => (some (a0_0, t105, t139, x10_2, x11_3, true))) = some (r1, r2, r3, r4, r5, r6) := by first | (rw [hy136]; with_reducible exact H) | (have H2_ := (Option.bind_some _ _).symm.trans H; rw [hy136]; with_reducible exact H2_) | (have H2_ := (Option.bind_some _ _).symm.trans H; with_reducible exact H2_) | with_reducible exact H | (rw [hy136]; exact H) | exact H
               have Ny136 := sA hy136
               clear hy136
               obtain ⟨t139, A94, H⟩ := sN H
               simp only [Option.some.injEq, Prod.mk.injEq] at H
               obtain ⟨rfl, rfl, rfl, rfl, rfl, rfl⟩ := H
               have := NB127_101.out
               have := NB101_127.out
               have := NB127_102.out
               have := NB102_127.out
               have := NB127_109.out
               have := NB109_127.out
               obtain ⟨_, _, _, _, _, _⟩ := sD3 BK127
               obtain ⟨Ao100, co100, eo100⟩ := Kd.R_slice HO_11.out
               subst eo100
               go_wp2_with (first | ((with_reducible refine gate_builtin (b := .append) (xs := #[.tmp 96, .tmp 97]) rfl ?_); at_builtin; refine Kd.R_append_rows (Kd.int .i64) (w0 := w) w.heap.size rfl (.tmp 96) (.tmp 97) 23 3 (.int .i64 0) 8 rfl Try.underlying23 info3 rfl (by decide) (by omega) (.slice Ao74 t124.length co74) t124 x11_3 _ _ _ (fun k_ => some k_ ≠ (u10 : Value).ownBlock ∧ some k_ ≠ (.slice Ao100 x11_3.length co100 : Value).ownBlock ∧ some k_ ≠ (.slice Ao86 t129.length co86 : Value).ownBlock) (fun _ => False) rfl rfl ?aO ?aR (fun _ _ h => h) (fun _ h => h.elim) ?aF ?aB ?aS ?aL ?_; (case aR => exact sK (Kd.R_reads' HO_11.out).2.2); (case aB => exact sH); (case aF => exact (fun k_ hk => ⟨Kd.fresh' (Kd.R_lt (sR HO_10.out)) k_ hk, Kd.fresh' (Kd.R_lt (sR HO_11.out)) k_ hk, Kd.fresh' (Kd.R_lt (sR HO_80.out)) k_ hk⟩)); (case aO => exact (sR HO_128002.out)); (case aS => exact (below_size sH)); (case aL => have := LMc93.out; omega); intro v137 w99 ho hb hg hat; rw [← Ny136.out] at ho; replace HO_10 := sA (Kd.R_after (ok := (fun k_ => some k_ ≠ (.slice Ao100 x11_3.length co100 : Value).ownBlock ∧ some k_ ≠ (.slice Ao86 t129.length co86 : Value).ownBlock)) (sR (Kd.R_mono HO_10.out (fun _ hk => ⟨⟨hk.1, hk.2.1⟩, hk.2.2⟩))) hg hat); replace HO_11 := sA (Kd.R_after (ok := (fun k_ => some k_ ≠ (u10 : Value).ownBlock ∧ some k_ ≠ (.slice Ao86 t129.length co86 : Value).ownBlock)) (sR (Kd.R_mono HO_11.out (fun _ hk => ⟨⟨hk.1, hk.2.1⟩, hk.2.2⟩))) hg hat); replace HO_80 := sA (Kd.R_after (ok := (fun k_ => some k_ ≠ (u10 : Value).ownBlock ∧ some k_ ≠ (.slice Ao100 x11_3.length co100 : Value).ownBlock)) (sR (Kd.R_mono HO_80.out (fun _ hk => ⟨⟨hk.1, hk.2.1⟩, hk.2.2⟩))) hg hat); replace HO_110000 := sA (Kd.R_over' (sR HO_110000.out) (Kd.R_typed (sR HO_128002.out)) (by decide) hg); replace HO_128001 := sA (Kd.R_over' (sR HO_128001.out) (Kd.R_typed (sR HO_128002.out)) (by decide) hg); replace BK101 := sA (blk_grown (g := gb101) (o := .cells #[.int .i64 a0_0, .slice A0_1 l0_1.length c0_1, .slice A0_2 l0_2.length c0_2] 31 (0, 0)) (sB BK101.out) hg (Kd.R_ne HO_128002.out BK101.out (by decide))); replace BK102 := sA (blk_grown (g := gb102) (o := .cells #[.int .i64 0, .slice none 0 0, .slice none 0 0] 31 (0, 0)) (sB BK102.out) hg (Kd.R_ne HO_128002.out BK102.out (by decide))); replace BK109 := sA (blk_grown (g := gb109) (o := .cells #[.slice (some ad128) t105.length co26] 29 (0, 0)) (sB BK109.out) hg (Kd.R_ne HO_128002.out BK109.out (by decide))); replace BK127 := sA (blk_grown (g := gb127) (o := .cells #[.int .i64 a0_0, .slice (some ad128) t105.length co26, .slice Ao74 t124.length co74] 31 (0, 0)) (sB BK127.out) hg (Kd.R_ne HO_128002.out BK127.out (by decide))); replace HB := sA (hb); have HO138 := sA (ho); clear HO_128002; clear ho hb hg hat; obtain ⟨Ao101, co101, eo101⟩ := Kd.R_slice HO138.out; subst eo101; obtain ⟨_, _, _, _, _, _⟩ := sD3 BK127) | ((with_reducible refine gate_store (t := 23) (p := 99) rfl ?_); refine store_event (t := 23) (p := 99) (v := ?vo_w103) (w1 := (w99.setCell ⟨gb127, 2, none⟩ (.slice Ao101 y136.length co101))) ?hg ?ho ?hn ?hr ?_; (case ho => rfl); (case hg => rfl); (case hn => rfl); (case hr => first | (go_simp; done) | (go_simp; rfl)); intro w103 hw; have n0_ : Aside0 (Kd.R (Kd.int .i64) 3 w103 w.heap.size (fun k_ => some k_ ≠ (.slice Ao100 x11_3.length co100 : Value).ownBlock ∧ some k_ ≠ (.slice Ao86 t129.length co86 : Value).ownBlock ∧ some k_ ≠ (.slice Ao101 y136.length co101 : Value).ownBlock) u10 x10_2) := ⟨(by rw [hw]; exact (sR (Kd.R_mono (Kd.R_far (p := ⟨gb127, 2, none⟩) (Kd.R_types HO_10.out BK127.out (by decide)) (fun _ hk => hk.2) (.slice Ao101 y136.length co101)) (fun _ hk => ⟨hk.1.1.1, ⟨hk.1.1.2, hk.1.2⟩⟩))))⟩; have n1_ : Aside0 (Kd.R (Kd.int .i64) 3 w103 w.heap.size (fun k_ => some k_ ≠ (u10 : Value).ownBlock ∧ some k_ ≠ (.slice Ao86 t129.length co86 : Value).ownBlock ∧ some k_ ≠ (.slice Ao101 y136.length co101 : Value).ownBlock) (.slice Ao100 x11_3.length co100) x11_3) := ⟨(by rw [hw]; exact (sR (Kd.R_mono (Kd.R_far (p := ⟨gb127, 2, none⟩) (Kd.R_types HO_11.out BK127.out (by decide)) (fun _ hk => hk.2) (.slice Ao101 y136.length co101)) (fun _ hk => ⟨hk.1.1.1, ⟨hk.1.1.2, hk.1.2⟩⟩))))⟩; have n2_ : Aside0 (Kd.R (Kd.int .i64) 3 w103 w.heap.size (fun k_ => some k_ ≠ (u10 : Value).ownBlock ∧ some k_ ≠ (.slice Ao100 x11_3.length co100 : Value).ownBlock ∧ some k_ ≠ (.slice Ao101 y136.length co101 : Value).ownBlock) (.slice Ao86 t129.length co86) t129) := ⟨(by rw [hw]; exact (sR (Kd.R_mono (Kd.R_far (p := ⟨gb127, 2, none⟩) (Kd.R_types HO_80.out BK127.out (by decide)) (fun _ hk => hk.2) (.slice Ao101 y136.length co101)) (fun _ hk => ⟨hk.1.1.1, ⟨hk.1.1.2, hk.1.2⟩⟩))))⟩; have n3_ : Aside0 (Kd.R k59 59 w103 w.heap.size (fun _ => True) (.slice (some ad128) t105.length co26) t105) := ⟨(by rw [hw]; exact (sR (Kd.R_mono (Kd.R_far (p := ⟨gb127, 2, none⟩) (Kd.R_types HO_110000.out BK127.out (by decide)) (fun _ hk => hk.2) (.slice Ao101 y136.length co101)) (fun _ hk => trivial))))⟩; have n4_ : Aside0 (Kd.R k59 59 w103 w.heap.size (fun _ => True) (.slice (some ad128) t105.length co26) t105) := ⟨(by rw [hw]; exact (sR (Kd.R_mono (Kd.R_far (p := ⟨gb127, 2, none⟩) (Kd.R_types HO_128001.out BK127.out (by decide)) (fun _ hk => hk.2) (.slice Ao101 y136.length co101)) (fun _ hk => trivial))))⟩; have n5_ : Aside0 (Kd.R (Kd.int .i64) 3 w103 w.heap.size (fun k_ => some k_ ≠ (u10 : Value).ownBlock ∧ some k_ ≠ (.slice Ao100 x11_3.length co100 : Value).ownBlock ∧ some k_ ≠ (.slice Ao86 t129.length co86 : Value).ownBlock) (.slice Ao101 y136.length co101) y136) := ⟨(by rw [hw]; exact (sR (Kd.R_mono (Kd.R_far (p := ⟨gb127, 2, none⟩) (Kd.R_types HO138.out BK127.out (by decide)) (fun _ hk => hk.2) (.slice Ao101 y136.length co101)) (fun _ hk => ⟨hk.1.1, ⟨hk.1.2.1, hk.1.2.2⟩⟩))))⟩; have n6_ : Aside0 (w103.heap[gb101]? = some (.cells #[.int .i64 a0_0, .slice A0_1 l0_1.length c0_1, .slice A0_2 l0_2.length c0_2] 31 (0, 0))) := ⟨(by rw [hw]; exact (by (with_reducible repeat first | apply blk_drewN | apply blk_drew | apply blk_alloc); refine blk_far ?_ NB101_127.out _; (with_reducible repeat first | apply blk_drewN | apply blk_drew | apply blk_alloc); exact BK101.out))⟩; have n7_ : Aside0 (w103.heap[gb102]? = some (.cells #[.int .i64 0, .slice none 0 0, .slice none 0 0] 31 (0, 0))) := ⟨(by rw [hw]; exact (by (with_reducible repeat first | apply blk_drewN | apply blk_drew | apply blk_alloc); refine blk_far ?_ NB102_127.out _; (with_reducible repeat first | apply blk_drewN | apply blk_drew | apply blk_alloc); exact BK102.out))⟩; have n8_ : Aside0 (w103.heap[gb109]? = some (.cells #[.slice (some ad128) t105.length co26] 29 (0, 0))) := ⟨(by rw [hw]; exact (by (with_reducible repeat first | apply blk_drewN | apply blk_drew | apply blk_alloc); refine blk_far ?_ NB109_127.out _; (with_reducible repeat first | apply blk_drewN | apply blk_drew | apply blk_alloc); exact BK109.out))⟩; have n9_ : Aside0 (w103.heap[gb127]? = some (.cells #[.int .i64 a0_0, .slice (some ad128) t105.length co26, .slice Ao101 y136.length co101] 31 (0, 0))) := ⟨(by rw [hw]; exact (by (with_reducible repeat first | apply blk_drewN | apply blk_drew | apply blk_alloc); refine blk_put (cs := #[.int .i64 a0_0, .slice (some ad128) t105.length co26, .slice Ao74 t124.length co74]) ?_ 2 _ rfl; (with_reducible repeat first | apply blk_drewN | apply blk_drew | apply blk_alloc); exact BK127.out))⟩; have n10_ : Aside0 (Below w.heap.size w w103) := ⟨(by rw [hw]; exact sH)⟩; clear hw HO_10 HO_11 HO_80 HO_110000 HO_128001 HO138 BK101 BK102 BK109 BK127 HB; have HO_10 := n0_; have HO_11 := n1_; have HO_80 := n2_; have HO_110000 := n3_; have HO_128001 := n4_; have HO138 := n5_; have BK101 := n6_; have BK102 := n7_; have BK109 := n8_; have BK127 := n9_; have HB := n10_; clear n0_ n1_ n2_ n3_ n4_ n5_ n6_ n7_ n8_ n9_ n10_; obtain ⟨_, _, _, _, _, _⟩ := sD3 BK127) | ((with_reducible refine gate_callee (f := 48) rfl ?_); refine goesL_ (some 102) rfl rfl Try.func48 (by kernel_rfl) rfl #[.slice Ao101 y136.length co101] rfl sG ?_; (with_reducible refine (slices_Sort_int_int.calls (fun k_ => some k_ = (.slice Ao101 y136.length co101 : Value).ownBlock) (.slice Ao101 y136.length co101) y136 t139 w _ ?side1 ?side2 A94.out).mono ?_); (case side1 => repeat (first | (with_reducible first | exact HB.out | apply sLA | apply sLN | apply sLD | refine sLS ?_ GE101.out | refine sLS ?_ GE102.out | refine sLS ?_ GE109.out | refine sLS ?_ GE127.out) | exact HB.out)); (case side2 => exact Kd.R_tight rfl HO138.out); rintro e w105 ⟨rfl, hy0, hb, hkp⟩; refine ⟨_, rfl, ?_⟩; replace HO_10 := sA (Kd.R_mono (ok' := fun k_ => some k_ ≠ (.slice Ao100 x11_3.length co100 : Value).ownBlock ∧ some k_ ≠ (.slice Ao86 t129.length co86 : Value).ownBlock ∧ some k_ ≠ (.slice Ao101 y136.length co101 : Value).ownBlock) (Kd.R_keptB (HO_10.out) hkp (fun k_ hk_ hs_ => (hk_.2.2) hs_)) (fun k_ hk_ => ⟨hk_.1.1, hk_.1.2.1, hk_.1.2.2⟩)); replace HO_11 := sA (Kd.R_mono (ok' := fun k_ => some k_ ≠ (u10 : Value).ownBlock ∧ some k_ ≠ (.slice Ao86 t129.length co86 : Value).ownBlock ∧ some k_ ≠ (.slice Ao101 y136.length co101 : Value).ownBlock) (Kd.R_keptB (HO_11.out) hkp (fun k_ hk_ hs_ => (hk_.2.2) hs_)) (fun k_ hk_ => ⟨hk_.1.1, hk_.1.2.1, hk_.1.2.2⟩)); replace HO_80 := sA (Kd.R_mono (ok' := fun k_ => some k_ ≠ (u10 : Value).ownBlock ∧ some k_ ≠ (.slice Ao100 x11_3.length co100 : Value).ownBlock ∧ some k_ ≠ (.slice Ao101 y136.length co101 : Value).ownBlock) (Kd.R_keptB (HO_80.out) hkp (fun k_ hk_ hs_ => (hk_.2.2) hs_)) (fun k_ hk_ => ⟨hk_.1.1, hk_.1.2.1, hk_.1.2.2⟩)); replace HO_110000 := sA (Kd.R_mono (ok' := fun k_ => True) (Kd.R_keptB ((Kd.R_apart' HO_110000.out (Kd.R_typed HO138.out) (by decide))) hkp (fun k_ hk_ hs_ => (hk_.2) hs_)) (fun k_ hk_ => trivial)); replace HO_128001 := sA (Kd.R_mono (ok' := fun k_ => True) (Kd.R_keptB ((Kd.R_apart' HO_128001.out (Kd.R_typed HO138.out) (by decide))) hkp (fun k_ hk_ hs_ => (hk_.2) hs_)) (fun k_ hk_ => trivial)); replace BK101 := sA (blk_kept (sB BK101.out) hkp (fun hs_ => (fun e_ => (Kd.R_ne HO138.out BK101.out (by decide)) e_) hs_)); replace BK102 := sA (blk_kept (sB BK102.out) hkp (fun hs_ => (fun e_ => (Kd.R_ne HO138.out BK102.out (by decide)) e_) hs_)); replace BK109 := sA (blk_kept (sB BK109.out) hkp (fun hs_ => (fun e_ => (Kd.R_ne HO138.out BK109.out (by decide)) e_) hs_)); replace BK127 := sA (blk_kept (sB BK127.out) hkp (fun hs_ => (fun e_ => (Kd.R_ne HO138.out BK127.out (by decide)) e_) hs_)); replace HO138 := sA (Kd.R_reok rfl hy0 (fun k_ e_ => HO138.out.1 k_ e_)); replace HB := sA (hb); (try clear hb); (try clear hkp); (try clear hy0); obtain ⟨_, _, _, _, _, _⟩ := sD3 BK127; have := NB102_101.out; have := NB101_102.out; have := NB102_109.out; have := NB109_102.out; obtain ⟨_, _, _, _, _, _⟩ := sD3 BK102))
               refine bodyPost_ret (results_list (rs := [.cell 4 31, .tmp 5, .tmp 6, .tmp 7]) rfl (by simp) (.cell gb102 31 #[.int .i64 a0_0, .slice (some ad128) t105.length co26, .slice Ao101 y136.length co101] (0, 0) _ rfl (by (with_reducible repeat first | apply blk_drewN | apply blk_drew | apply blk_alloc); refine blk_put (cs := #[.int .i64 a0_0, .slice (some ad128) t105.length co26, .slice none 0 0]) ?_ 2 _ rfl; (with_reducible repeat first | apply blk_drewN | apply blk_drew | apply blk_alloc); refine blk_put (cs := #[.int .i64 a0_0, .slice none 0 0, .slice none 0 0]) ?_ 1 _ rfl; (with_reducible repeat first | apply blk_drewN | apply blk_drew | apply blk_alloc); refine blk_put (cs := #[.int .i64 0, .slice none 0 0, .slice none 0 0]) ?_ 0 _ rfl; (with_reducible repeat first | apply blk_drewN | apply blk_drew | apply blk_alloc); exact BK102.out) Try.underlying31 rfl (by kernel_rfl) (.tmp (.tmp (.tmp .nil))))) rfl ?_
               exact ⟨_, _, _, _, by first | rfl | (simp [errW_none, errW_some] <;> rfl) | (simp only [← hji63]; first | rfl | (simp [errW_none, errW_some] <;> rfl)) | (simp [*, errW_none, errW_some] <;> rfl), by (with_reducible repeat (first | apply Kd.R_alloc | apply Kd.R_drewN | apply Kd.R_drew)); exact Kd.R_mono (Kd.R_far (p := ⟨gb102, 2, none⟩) (Kd.R_far (p := ⟨gb102, 1, none⟩) (Kd.R_far (p := ⟨gb102, 0, none⟩) (Kd.R_types HO_128001.out BK102.out (by decide)) (fun _ hk => hk.2) (.int .i64 a0_0)) (fun _ hk => hk.2) (.slice (some ad128) t105.length co26)) (fun _ hk => hk.2) (.slice Ao101 y136.length co101)) (fun _ hk => trivial), by (with_reducible repeat (first | apply Kd.R_alloc | apply Kd.R_drewN | apply Kd.R_drew)); exact Kd.R_mono (Kd.R_far (p := ⟨gb102, 2, none⟩) (Kd.R_far (p := ⟨gb102, 1, none⟩) (Kd.R_far (p := ⟨gb102, 0, none⟩) (Kd.R_types HO138.out BK102.out (by decide)) (fun _ hk => hk.2) (.int .i64 a0_0)) (fun _ hk => hk.2) (.slice (some ad128) t105.length co26)) (fun _ hk => hk.2) (.slice Ao101 y136.length co101)) (fun _ hk => ⟨hk.1.1, hk.1.2.1⟩), by (with_reducible repeat (first | apply Kd.R_alloc | apply Kd.R_drewN | apply Kd.R_drew)); exact Kd.R_mono (Kd.R_far (p := ⟨gb102, 2, none⟩) (Kd.R_far (p := ⟨gb102, 1, none⟩) (Kd.R_far (p := ⟨gb102, 0, none⟩) (Kd.R_types HO_10.out BK102.out (by decide)) (fun _ hk => hk.2) (.int .i64 a0_0)) (fun _ hk => hk.2) (.slice (some ad128) t105.length co26)) (fun _ hk => hk.2) (.slice Ao101 y136.length co101)) (fun _ hk => ⟨hk.1.2.2, hk.1.1⟩), by (with_reducible repeat (first | apply Kd.R_alloc | apply Kd.R_drewN | apply Kd.R_drew)); exact Kd.R_mono (Kd.R_far (p := ⟨gb102, 2, none⟩) (Kd.R_far (p := ⟨gb102, 1, none⟩) (Kd.R_far (p := ⟨gb102, 0, none⟩) (Kd.R_types HO_11.out BK102.out (by decide)) (fun _ hk => hk.2) (.int .i64 a0_0)) (fun _ hk => hk.2) (.slice (some ad128) t105.length co26)) (fun _ hk => hk.2) (.slice Ao101 y136.length co101)) (fun _ hk => ⟨hk.1.2.2, hk.1.1⟩), by repeat (first | (with_reducible first | exact HB.out | apply sLA | apply sLN | apply sLD | refine sLS ?_ GE101.out | refine sLS ?_ GE102.out | refine sLS ?_ GE109.out | refine sLS ?_ GE127.out) | exact HB.out)⟩
              ·rw [if_neg c93] at H
               exact absurd H (by simp)
          ·rw [if_neg c65] at H
           exact absurd H (by simp)
         ·rw [if_neg c64] at H
          exact absurd H (by simp)
        ·rw [if_neg c62] at H
         have c62b0 : decide (0 < (t105.length : Int)) = false := decide_eq_false c62
         have c62b1 : decide (0 < t105.length) = false := decide_eq_false (by omega)
         clear c62
         by_cases c110 : t124.length + y113.length < 17592186044416
         ·rw [if_pos c110] at H
          have LMc110 := sA c110
          clear c110
          obtain ⟨y140, hy140⟩ : ∃ y_ : List Int, y_ = (t124 ++ y113) := ⟨_, rfl⟩
          replace H : ((slices_Sort_int_int.f y140).bind fun t143 => (some (a0_0, t105, t143, x10_2, y113, true))) = some (r1, r2, r3, r4, r5, r6) := by first | (rw [hy140]; with_reducible exact H) | (have H2_ := (Option.bind_some _ _).symm.trans H; rw [hy140]; with_reducible exact H2_) | (have H2_ := (Option.bind_some _ _).symm.trans H; with_reducible exact H2_) | with_reducible exact H | (rw [hy140]; exact H) | exact H
          have Ny140 := sA hy140
          clear hy140
          obtain ⟨t143, A111, H⟩ := sN H
          simp only [Option.some.injEq, Prod.mk.injEq] at H
          obtain ⟨rfl, rfl, rfl, rfl, rfl, rfl⟩ := H
          try go_wp2
          replace HO_10 := sA (Kd.R_drew HO_10.out)
          replace HO_11 := sA (Kd.R_drew HO_11.out)
          replace HO_110000 := sA (Kd.R_drew HO_110000.out)
          replace BK101 := sA (blk_drew BK101.out)
          replace BK102 := sA (blk_drew BK102.out)
          replace BK109 := sA (blk_drew BK109.out)
          replace HB := sA (below_drew1 HB.out)
          refine start_ (n := 11) (S := fun w' => w'.cell? ⟨gb101, 0, none⟩ = some (.int .i64 a0_0) ∧ w'.cell? ⟨gb101, 1, none⟩ = some (.slice A0_1 l0_1.length c0_1) ∧ w'.cell? ⟨gb101, 2, none⟩ = some (.slice A0_2 l0_2.length c0_2) ∧ w'.cell? ⟨gb109, 0, none⟩ = some (.slice Ao26 t105.length co26)) (ds := []) (sM 11 0) (by kernel_rfl) rfl rfl ⟨sC BK101 0 rfl, sC BK101 1 rfl, sC BK101 2 rfl, sC BK109 0 rfl⟩ (fun hHeld => ?_); refine with_tabW impl_HearSpans.tab13 impl_HearSpans.bits13 (fun HT_ HW_ => ?_)
          generalize wr.drew = w112 at HO_10 HO_11 HO_110000 BK101 BK102 BK109 HB hHeld ⊢
          refine sP (v := ?_) (a' := ?_) 0 60 (sM 11 1) HT_ ?_ ?_ ?_; rotate_left 2
          ·intro w'; go_simp; with_reducible rfl
          ·simp only [Act.put, sI, sZ, sV, i64_w, i32_w]; rfl
          refine sP (v := ?_) (a' := ?_) 3 63 (sM 11 9) HT_ ?_ ?_ ?_; rotate_left 2
          ·intro w'; go_simp; with_reducible rfl
          ·simp only [Act.put, sI, sZ, sV, i64_w, i32_w]; rfl
          refine sP (v := ?_) (a' := ?_) 6 66 (sM 11 73) HT_ ?_ ?_ ?_; rotate_left 2
          ·intro w'; go_simp; with_reducible rfl
          ·simp only [Act.put, sI, sZ, sV, i64_w, i32_w]; rfl
          refine sT (v := ?_) (a' := ?_) 1 61 (sM 11 75) HT_ HW_ hHeld ?_ ?_ ?_; rotate_left 2
          ·rintro w' ⟨s0, s1, s2, s3⟩; go_simp; with_reducible rfl
          ·simp only [Act.put, sI, sZ, sV, i64_w, i32_w]; rfl
          refine sT (v := ?_) (a' := ?_) 2 62 (sM 11 79) HT_ HW_ hHeld ?_ ?_ ?_; rotate_left 2
          ·rintro w' ⟨s0, s1, s2, s3⟩; go_simp; with_reducible rfl
          ·simp only [Act.put, sI, sZ, sV, i64_w, i32_w]; rfl
          refine sT (v := ?_) (a' := ?_) 4 64 (sM 11 95) HT_ HW_ hHeld ?_ ?_ ?_; rotate_left 2
          ·rintro w' ⟨s0, s1, s2, s3⟩; go_simp; with_reducible rfl
          ·simp only [Act.put, sI, sZ, sV, i64_w, i32_w]; rfl
          refine join_ (σ := Value × Value × Nat) 1 (sM 11 1023) (fun s_ => [(65, s_.1), (67, s_.2.1), (13, .pointer (some ⟨s_.2.2, 0, none⟩)), (68, .agg #[.int .i64 a0_0, .slice Ao26 t105.length co26, s_.2.1])]) (fun s_ w' => (w'.cell? ⟨gb101, 0, none⟩ = some (.int .i64 a0_0) ∧ w'.cell? ⟨gb101, 1, none⟩ = some (.slice A0_1 l0_1.length c0_1) ∧ w'.cell? ⟨gb101, 2, none⟩ = some (.slice A0_2 l0_2.length c0_2) ∧ w'.cell? ⟨gb109, 0, none⟩ = some (.slice Ao26 t105.length co26)) ∧ (Kd.R (Kd.int .i64) 3 w' w.heap.size (fun k_ => some k_ ≠ (u10 : Value).ownBlock ∧ some k_ ≠ (v114 : Value).ownBlock) s_.2.1 t124) ∧ (Kd.R (Kd.int .i64) 3 w' w.heap.size (fun k_ => some k_ ≠ (s_.2.1 : Value).ownBlock ∧ some k_ ≠ (v114 : Value).ownBlock) u10 x10_2) ∧ (Kd.R (Kd.int .i64) 3 w' w.heap.size (fun k_ => some k_ ≠ (s_.2.1 : Value).ownBlock ∧ some k_ ≠ (u10 : Value).ownBlock) v114 y113) ∧ (Kd.R k59 59 w' w.heap.size (fun _ => True) (.slice Ao26 t105.length co26) t105) ∧ (w'.heap[gb101]? = some (.cells #[.int .i64 a0_0, .slice A0_1 l0_1.length c0_1, .slice A0_2 l0_2.length c0_2] 31 (0, 0))) ∧ (w'.heap[gb102]? = some (.cells #[.int .i64 0, .slice none 0 0, .slice none 0 0] 31 (0, 0))) ∧ (w'.heap[gb109]? = some (.cells #[.slice Ao26 t105.length co26] 29 (0, 0))) ∧ (w'.heap[s_.2.2]? = some (.cells #[.int .i64 0, .slice none 0 0, .slice none 0 0] 31 (0, 0))) ∧ (w.heap.size ≤ s_.2.2) ∧ (w.heap.size ≤ s_.2.2) ∧ (gb101 ≠ s_.2.2) ∧ (s_.2.2 ≠ gb101) ∧ (gb102 ≠ s_.2.2) ∧ (s_.2.2 ≠ gb102) ∧ (gb109 ≠ s_.2.2) ∧ (s_.2.2 ≠ gb109) ∧ (Below w.heap.size w w')) ?_ ?_
          rotate_left
          ·intro hCont
           refine two_ (i := 5) (j := 9) (Ni := some 65) (Nj := some 13) (sM 11 127) (sM 11 607) rfl rfl rfl rfl (two_of HT_.out (by kernel_rfl)) (by decide) (by decide) (fun K hK => ?_) (fun K hK => ?_)
           ·skip
            refine goes_ Try.func39 (by kernel_rfl) rfl #[.slice A0_2 l0_2.length c0_2] (by rfl) rfl rfl sG ?_
            with_reducible refine (slices_Clone_int_int.calls _ _ l0_2 t121 _ ?side1 ?side2 A60.out).mono ?_
            (case side1 => exact sK (Kd.C_below HR0_2.out HB.out))
            (case side2 => exact HC0_2.out)
            rintro e w113 ⟨v122, rfl, ho0, hb⟩
            refine ⟨_, rfl, ?_⟩
            replace HO_110000 := sS HO_110000 hb
            have HO123 := sA (Kd.R_lower (Kd.R_new' (Kd.R_new' ho0 (Kd.R_lt (sR HO_10.out))) (Kd.R_lt (sR HO_11.out))) (below_size sH))
            replace HO_10 := sA (Kd.R_elder' (sR HO_10.out) (Kd.R_base ho0) hb)
            replace HO_11 := sA (Kd.R_elder' (sR HO_11.out) (Kd.R_base ho0) hb)
            replace BK101 := sJ BK101 hb
            replace BK102 := sJ BK102 hb
            replace BK109 := sJ BK109 hb
            replace HB := sA (below_step sH hb)
            (try clear hb)
            (try clear hb2)
            (try clear hk)
            (try clear hi)
            (try clear ho0)
            obtain ⟨Ao114, co114, eo114⟩ := Kd.R_slice HO123.out
            (first | subst eo114 | (injection eo114 with f1_ f2_ f3_; have f4_ := f1_.symm; have f5_ := f3_.symm; clear f1_ f2_ f3_; subst f4_; subst f5_))
            refine hK.out _ _ ⟨sC BK101 0 rfl, sC BK101 1 rfl, sC BK101 2 rfl, sC BK109 0 rfl⟩ (fun hHeld => ?_)
            clear hK K
            refine norm_ (a' := ?_) ?_ ?_
            rotate_left
            ·show Act.put _ (some 65) _ = _
             simp only [Act.put, sI, sZ, sV, i64_w, i32_w]
             rfl
            refine two_ (i := 7) (j := 9) (Ni := some 67) (Nj := some 13) (sM 11 255) (sM 11 639) rfl rfl rfl rfl (two_of HT_.out (by kernel_rfl)) (by decide) (by decide) (fun K hK => ?_) (fun K hK => ?_)
            ·skip
             refine goes_ Try.func46 (by kernel_rfl) rfl #[.slice Ao114 t121.length co114, .func (.func 47) #[] #[.pointer (some ⟨gb109, 0, none⟩)]] (by rfl) rfl rfl sG ?_
             with_reducible refine (slices_DeleteFunc_int_int.calls (fun k_ => some k_ = (.slice Ao114 t121.length co114 : Value).ownBlock) (.slice Ao114 t121.length co114) t121 Ao26 co26 t105 t124 w _ ?side1 ?side2 ?side3 ?side4 A61.out (B := gb109) ?sideI).mono ?_
             (case sideI => exact fun W_ hkp => (blk_cell (blk_kept (sB BK109.out) hkp (fun hs_ => (fun e_ => (Kd.R_ne HO123.out BK109.out (by decide)) e_) hs_)) 0).trans rfl)
             (case side1 => repeat (first | (with_reducible first | exact HB.out | apply sLA | apply sLN | apply sLD | refine sLS ?_ GE101.out | refine sLS ?_ GE102.out | refine sLS ?_ GE109.out) | exact HB.out))
             (case side2 => exact Kd.R_tight rfl HO123.out)
             (case side3 => exact Kd.C_kept_own ((Kd.R_apart' HO_110000.out (Kd.R_typed HO123.out) (by decide))) (fun k_ hk_ hs_ => (hk_.2) hs_))
             (case side4 => exact (Kd.R_reads' HO_110000.out).2.1)
             rintro e w115 ⟨v125, rfl, ho0, hb, hkp⟩
             refine ⟨_, rfl, ?_⟩
             replace HO_110000 := sA (Kd.R_mono (ok' := fun k_ => True) (Kd.R_keptB ((Kd.R_apart' HO_110000.out (Kd.R_typed HO123.out) (by decide))) hkp (fun k_ hk_ hs_ => (hk_.2) hs_)) (fun k_ hk_ => trivial))
             replace BK101 := sA (blk_kept (sB BK101.out) hkp (fun hs_ => (fun e_ => (Kd.R_ne HO123.out BK101.out (by decide)) e_) hs_))
             replace BK102 := sA (blk_kept (sB BK102.out) hkp (fun hs_ => (fun e_ => (Kd.R_ne HO123.out BK102.out (by decide)) e_) hs_))
             replace BK109 := sA (blk_kept (sB BK109.out) hkp (fun hs_ => (fun e_ => (Kd.R_ne HO123.out BK109.out (by decide)) e_) hs_))
             have HO126 := sA (Kd.R_mono (ok' := fun k_ => some k_ ≠ (u10 : Value).ownBlock ∧ some k_ ≠ (v114 : Value).ownBlock) ho0 (fun k_ hk_ => ⟨Or.elim hk_ (fun hs_ => fun e_ => (((HO_10.out).1 k_ e_.symm).2) hs_) (fun hn_ => (Kd.fresh' (Kd.R_lt (sR HO_10.out)) k_ hn_)), Or.elim hk_ (fun hs_ => fun e_ => (((HO_11.out).1 k_ e_.symm).2) hs_) (fun hn_ => (Kd.fresh' (Kd.R_lt (sR HO_11.out)) k_ hn_))⟩))
             replace HO_10 := sA (Kd.R_mono (ok' := fun k_ => some k_ ≠ (v114 : Value).ownBlock ∧ some k_ ≠ (v125 : Value).ownBlock) (Kd.R_keptB (HO_10.out) hkp (fun k_ hk_ hs_ => (hk_.2) hs_)) (fun k_ hk_ => ⟨hk_.1.1, fun e_ => Or.elim (ho0.1 k_ e_.symm) (fun hs_ => hk_.2.1 hs_) (fun hn_ => Nat.not_le.2 hk_.2.2 hn_)⟩))
             replace HO_11 := sA (Kd.R_mono (ok' := fun k_ => some k_ ≠ (u10 : Value).ownBlock ∧ some k_ ≠ (v125 : Value).ownBlock) (Kd.R_keptB (HO_11.out) hkp (fun k_ hk_ hs_ => (hk_.2) hs_)) (fun k_ hk_ => ⟨hk_.1.1, fun e_ => Or.elim (ho0.1 k_ e_.symm) (fun hs_ => hk_.2.1 hs_) (fun hn_ => Nat.not_le.2 hk_.2.2 hn_)⟩))
             replace HB := sA (hb)
             clear HO123
             (try clear hb)
             (try clear hkp)
             (try clear ho0)
             obtain ⟨Ao116, co116, eo116⟩ := Kd.R_slice HO126.out
             (first | subst eo116 | (injection eo116 with f1_ f2_ f3_; have f4_ := f1_.symm; have f5_ := f3_.symm; clear f1_ f2_ f3_; subst f4_; subst f5_))
             refine hK.out _ _ ⟨sC BK101 0 rfl, sC BK101 1 rfl, sC BK101 2 rfl, sC BK109 0 rfl⟩ (fun hHeld => ?_)
             clear hK K
             refine norm_ (a' := ?_) ?_ ?_
             rotate_left
             ·show Act.put _ (some 67) _ = _
              simp only [Act.put, sI, sZ, sV, i64_w, i32_w]
              rfl
             refine sP (v := ?_) (a' := ?_) 8 68 (sM 11 511) HT_ ?_ ?_ ?_; rotate_left 2
             ·intro w'; go_simp; with_reducible rfl
             ·simp only [Act.put, sI, sZ, sV, i64_w, i32_w]; rfl
             refine one_ (i := 9) (N := some 13) (sM 11 1023) rfl rfl (one_of HT_.out (by kernel_rfl)) (by decide) (fun K hK => ?_)
             refine box_step ?hg (N := 13) ?hd (cs := #[.int .i64 0, .slice none 0 0, .slice none 0 0]) (t := 31) ?hr ?_; (case hd => rfl); (case hg => rfl); (case hr => first | (go_simp; done) | (go_simp; rfl))
             intro gb127 hg w117 hbox hb
             replace HO_10 := sS HO_10 hb
             replace HO_11 := sS HO_11 hb
             replace HO_110000 := sS HO_110000 hb
             replace HO126 := sS HO126 hb
             have BK127 := sA (hbox)
             have GW127 := sA ((by rw [hg]; exact (below_size sH) : w.heap.size ≤ gb127))
             have GE127 := sA ((by rw [hg]; exact (below_size sH) : w.heap.size ≤ gb127))
             replace HB := sA (below_step sH hb)
             have NB101_127 := sA ((by rw [hg]; exact Nat.ne_of_lt (blk_lt (sB BK101.out)) : gb101 ≠ gb127))
             have NB127_101 := sA ((by rw [hg]; exact Nat.ne_of_gt (blk_lt (sB BK101.out)) : gb127 ≠ gb101))
             replace BK101 := sJ BK101 hb
             have NB102_127 := sA ((by rw [hg]; exact Nat.ne_of_lt (blk_lt (sB BK102.out)) : gb102 ≠ gb127))
             have NB127_102 := sA ((by rw [hg]; exact Nat.ne_of_gt (blk_lt (sB BK102.out)) : gb127 ≠ gb102))
             replace BK102 := sJ BK102 hb
             have NB109_127 := sA ((by rw [hg]; exact Nat.ne_of_lt (blk_lt (sB BK109.out)) : gb109 ≠ gb127))
             have NB127_109 := sA ((by rw [hg]; exact Nat.ne_of_gt (blk_lt (sB BK109.out)) : gb127 ≠ gb109))
             replace BK109 := sJ BK109 hb
             clear hb hbox hg
             refine hK.out _ _ ⟨sC BK101 0 rfl, sC BK101 1 rfl, sC BK101 2 rfl, sC BK109 0 rfl⟩ (fun hHeld => ?_)
             clear hK K
             refine norm_ (a' := ?_) ?_ ?_
             rotate_left
             ·show Act.put _ (some 13) _ = _
              simp only [Act.put, sI, sZ, sV, i64_w, i32_w]
              rfl
             exact norm_ (by simp only [putAll, Act.put, sI, sZ, sV]) (hCont (.slice Ao114 t121.length co114, .slice Ao116 t124.length co116, gb127) _ ⟨hHeld, (sR HO126.out), (sR (Kd.R_mono HO_10.out (fun _ hk => ⟨hk.2, hk.1⟩))), (sR (Kd.R_mono HO_11.out (fun _ hk => ⟨hk.2, hk.1⟩))), (sR HO_110000.out), (sB BK101.out), (sB BK102.out), (sB BK109.out), (sB BK127.out), GW127.out, GE127.out, NB101_127.out, NB127_101.out, NB102_127.out, NB127_102.out, NB109_127.out, NB127_109.out, sH⟩)
            ·skip
             refine box_step ?hg (N := 13) ?hd (cs := #[.int .i64 0, .slice none 0 0, .slice none 0 0]) (t := 31) ?hr ?_; (case hd => rfl); (case hg => rfl); (case hr => first | (go_simp; done) | (go_simp; rfl))
             intro gb127 hg w114 hbox hb
             replace HO_10 := sS HO_10 hb
             replace HO_11 := sS HO_11 hb
             replace HO_110000 := sS HO_110000 hb
             replace HO123 := sS HO123 hb
             have BK127 := sA (hbox)
             have GW127 := sA ((by rw [hg]; exact (below_size sH) : w.heap.size ≤ gb127))
             have GE127 := sA ((by rw [hg]; exact (below_size sH) : w.heap.size ≤ gb127))
             replace HB := sA (below_step sH hb)
             have NB101_127 := sA ((by rw [hg]; exact Nat.ne_of_lt (blk_lt (sB BK101.out)) : gb101 ≠ gb127))
             have NB127_101 := sA ((by rw [hg]; exact Nat.ne_of_gt (blk_lt (sB BK101.out)) : gb127 ≠ gb101))
             replace BK101 := sJ BK101 hb
             have NB102_127 := sA ((by rw [hg]; exact Nat.ne_of_lt (blk_lt (sB BK102.out)) : gb102 ≠ gb127))
             have NB127_102 := sA ((by rw [hg]; exact Nat.ne_of_gt (blk_lt (sB BK102.out)) : gb127 ≠ gb102))
             replace BK102 := sJ BK102 hb
             have NB109_127 := sA ((by rw [hg]; exact Nat.ne_of_lt (blk_lt (sB BK109.out)) : gb109 ≠ gb127))
             have NB127_109 := sA ((by rw [hg]; exact Nat.ne_of_gt (blk_lt (sB BK109.out)) : gb127 ≠ gb109))
             replace BK109 := sJ BK109 hb
             clear hb hbox hg
             obtain ⟨Ao115, co115, eo115⟩ := Kd.R_slice HO123.out
             (first | subst eo115 | (injection eo115 with f1_ f2_ f3_; have f4_ := f1_.symm; have f5_ := f3_.symm; clear f1_ f2_ f3_; subst f4_; subst f5_))
             refine hK.out _ _ ⟨sC BK101 0 rfl, sC BK101 1 rfl, sC BK101 2 rfl, sC BK109 0 rfl⟩ (fun hHeld => ?_)
             clear hK K
             refine norm_ (a' := ?_) ?_ ?_
             rotate_left
             ·show Act.put _ (some 13) _ = _
              simp only [Act.put, sI, sZ, sV, i64_w, i32_w]
              rfl
             refine one_ (i := 7) (N := some 67) (sM 11 767) rfl rfl (one_of HT_.out (by kernel_rfl)) (by decide) (fun K hK => ?_)
             refine goes_ Try.func46 (by kernel_rfl) rfl #[.slice Ao115 t121.length co115, .func (.func 47) #[] #[.pointer (some ⟨gb109, 0, none⟩)]] (by rfl) rfl rfl sG ?_
             with_reducible refine (slices_DeleteFunc_int_int.calls (fun k_ => some k_ = (.slice Ao115 t121.length co115 : Value).ownBlock) (.slice Ao115 t121.length co115) t121 Ao26 co26 t105 t124 w _ ?side1 ?side2 ?side3 ?side4 A61.out (B := gb109) ?sideI).mono ?_
             (case sideI => exact fun W_ hkp => (blk_cell (blk_kept (sB BK109.out) hkp (fun hs_ => (fun e_ => (Kd.R_ne HO123.out BK109.out (by decide)) e_) hs_)) 0).trans rfl)
             (case side1 => repeat (first | (with_reducible first | exact HB.out | apply sLA | apply sLN | apply sLD | refine sLS ?_ GE101.out | refine sLS ?_ GE102.out | refine sLS ?_ GE109.out | refine sLS ?_ GE127.out) | exact HB.out))
             (case side2 => exact Kd.R_tight rfl HO123.out)
             (case side3 => exact Kd.C_kept_own ((Kd.R_apart' HO_110000.out (Kd.R_typed HO123.out) (by decide))) (fun k_ hk_ hs_ => (hk_.2) hs_))
             (case side4 => exact (Kd.R_reads' HO_110000.out).2.1)
             rintro e w116 ⟨v125, rfl, ho0, hb, hkp⟩
             refine ⟨_, rfl, ?_⟩
             replace HO_110000 := sA (Kd.R_mono (ok' := fun k_ => True) (Kd.R_keptB ((Kd.R_apart' HO_110000.out (Kd.R_typed HO123.out) (by decide))) hkp (fun k_ hk_ hs_ => (hk_.2) hs_)) (fun k_ hk_ => trivial))
             replace BK101 := sA (blk_kept (sB BK101.out) hkp (fun hs_ => (fun e_ => (Kd.R_ne HO123.out BK101.out (by decide)) e_) hs_))
             replace BK102 := sA (blk_kept (sB BK102.out) hkp (fun hs_ => (fun e_ => (Kd.R_ne HO123.out BK102.out (by decide)) e_) hs_))
             replace BK109 := sA (blk_kept (sB BK109.out) hkp (fun hs_ => (fun e_ => (Kd.R_ne HO123.out BK109.out (by decide)) e_) hs_))
             replace BK127 := sA (blk_kept (sB BK127.out) hkp (fun hs_ => (fun e_ => (Kd.R_ne HO123.out BK127.out (by decide)) e_) hs_))
             have HO126 := sA (Kd.R_mono (ok' := fun k_ => some k_ ≠ (u10 : Value).ownBlock ∧ some k_ ≠ (v114 : Value).ownBlock) ho0 (fun k_ hk_ => ⟨Or.elim hk_ (fun hs_ => fun e_ => (((HO_10.out).1 k_ e_.symm).2) hs_) (fun hn_ => (Kd.fresh' (Kd.R_lt (sR HO_10.out)) k_ hn_)), Or.elim hk_ (fun hs_ => fun e_ => (((HO_11.out).1 k_ e_.symm).2) hs_) (fun hn_ => (Kd.fresh' (Kd.R_lt (sR HO_11.out)) k_ hn_))⟩))
             replace HO_10 := sA (Kd.R_mono (ok' := fun k_ => some k_ ≠ (v114 : Value).ownBlock ∧ some k_ ≠ (v125 : Value).ownBlock) (Kd.R_keptB (HO_10.out) hkp (fun k_ hk_ hs_ => (hk_.2) hs_)) (fun k_ hk_ => ⟨hk_.1.1, fun e_ => Or.elim (ho0.1 k_ e_.symm) (fun hs_ => hk_.2.1 hs_) (fun hn_ => Nat.not_le.2 hk_.2.2 hn_)⟩))
             replace HO_11 := sA (Kd.R_mono (ok' := fun k_ => some k_ ≠ (u10 : Value).ownBlock ∧ some k_ ≠ (v125 : Value).ownBlock) (Kd.R_keptB (HO_11.out) hkp (fun k_ hk_ hs_ => (hk_.2) hs_)) (fun k_ hk_ => ⟨hk_.1.1, fun e_ => Or.elim (ho0.1 k_ e_.symm) (fun hs_ => hk_.2.1 hs_) (fun hn_ => Nat.not_le.2 hk_.2.2 hn_)⟩))
             replace HB := sA (hb)
             clear HO123
             (try clear hb)
             (try clear hkp)
             (try clear ho0)
             obtain ⟨Ao117, co117, eo117⟩ := Kd.R_slice HO126.out
             (first | subst eo117 | (injection eo117 with f1_ f2_ f3_; have f4_ := f1_.symm; have f5_ := f3_.symm; clear f1_ f2_ f3_; subst f4_; subst f5_))
             refine hK.out _ _ ⟨sC BK101 0 rfl, sC BK101 1 rfl, sC BK101 2 rfl, sC BK109 0 rfl⟩ (fun hHeld => ?_)
             clear hK K
             refine norm_ (a' := ?_) ?_ ?_
             rotate_left
             ·show Act.put _ (some 67) _ = _
              simp only [Act.put, sI, sZ, sV, i64_w, i32_w]
              rfl
             refine sP (v := ?_) (a' := ?_) 8 68 (sM 11 1023) HT_ ?_ ?_ ?_; rotate_left 2
             ·intro w'; go_simp; with_reducible rfl
             ·simp only [Act.put, sI, sZ, sV, i64_w, i32_w]; rfl
             exact norm_ (by simp only [putAll, Act.put, sI, sZ, sV]) (hCont (.slice Ao115 t121.length co115, .slice Ao117 t124.length co117, gb127) _ ⟨hHeld, (sR HO126.out), (sR (Kd.R_mono HO_10.out (fun _ hk => ⟨hk.2, hk.1⟩))), (sR (Kd.R_mono HO_11.out (fun _ hk => ⟨hk.2, hk.1⟩))), (sR HO_110000.out), (sB BK101.out), (sB BK102.out), (sB BK109.out), (sB BK127.out), GW127.out, GE127.out, NB101_127.out, NB127_101.out, NB102_127.out, NB127_102.out, NB109_127.out, NB127_109.out, sH⟩)
           ·skip
            refine box_step ?hg (N := 13) ?hd (cs := #[.int .i64 0, .slice none 0 0, .slice none 0 0]) (t := 31) ?hr ?_; (case hd => rfl); (case hg => rfl); (case hr => first | (go_simp; done) | (go_simp; rfl))
            intro gb127 hg w113 hbox hb
            replace HO_10 := sS HO_10 hb
            replace HO_11 := sS HO_11 hb
            replace HO_110000 := sS HO_110000 hb
            have BK127 := sA (hbox)
            have GW127 := sA ((by rw [hg]; exact (below_size sH) : w.heap.size ≤ gb127))
            have GE127 := sA ((by rw [hg]; exact (below_size sH) : w.heap.size ≤ gb127))
            replace HB := sA (below_step sH hb)
            have NB101_127 := sA ((by rw [hg]; exact Nat.ne_of_lt (blk_lt (sB BK101.out)) : gb101 ≠ gb127))
            have NB127_101 := sA ((by rw [hg]; exact Nat.ne_of_gt (blk_lt (sB BK101.out)) : gb127 ≠ gb101))
            replace BK101 := sJ BK101 hb
            have NB102_127 := sA ((by rw [hg]; exact Nat.ne_of_lt (blk_lt (sB BK102.out)) : gb102 ≠ gb127))
            have NB127_102 := sA ((by rw [hg]; exact Nat.ne_of_gt (blk_lt (sB BK102.out)) : gb127 ≠ gb102))
            replace BK102 := sJ BK102 hb
            have NB109_127 := sA ((by rw [hg]; exact Nat.ne_of_lt (blk_lt (sB BK109.out)) : gb109 ≠ gb127))
            have NB127_109 := sA ((by rw [hg]; exact Nat.ne_of_gt (blk_lt (sB BK109.out)) : gb127 ≠ gb109))
            replace BK109 := sJ BK109 hb
            clear hb hbox hg
            refine hK.out _ _ ⟨sC BK101 0 rfl, sC BK101 1 rfl, sC BK101 2 rfl, sC BK109 0 rfl⟩ (fun hHeld => ?_)
            clear hK K
            refine norm_ (a' := ?_) ?_ ?_
            rotate_left
            ·show Act.put _ (some 13) _ = _
             simp only [Act.put, sI, sZ, sV, i64_w, i32_w]
             rfl
            refine one_ (i := 5) (N := some 65) (sM 11 639) rfl rfl (one_of HT_.out (by kernel_rfl)) (by decide) (fun K hK => ?_)
            refine goes_ Try.func39 (by kernel_rfl) rfl #[.slice A0_2 l0_2.length c0_2] (by rfl) rfl rfl sG ?_
            with_reducible refine (slices_Clone_int_int.calls _ _ l0_2 t121 _ ?side1 ?side2 A60.out).mono ?_
            (case side1 => exact sK (Kd.C_below HR0_2.out HB.out))
            (case side2 => exact HC0_2.out)
            rintro e w114 ⟨v122, rfl, ho0, hb⟩
            refine ⟨_, rfl, ?_⟩
            replace HO_110000 := sS HO_110000 hb
            have HO123 := sA (Kd.R_lower (Kd.R_new' (Kd.R_new' ho0 (Kd.R_lt (sR HO_10.out))) (Kd.R_lt (sR HO_11.out))) (below_size sH))
            replace HO_10 := sA (Kd.R_elder' (sR HO_10.out) (Kd.R_base ho0) hb)
            replace HO_11 := sA (Kd.R_elder' (sR HO_11.out) (Kd.R_base ho0) hb)
            replace BK101 := sJ BK101 hb
            replace BK102 := sJ BK102 hb
            replace BK109 := sJ BK109 hb
            replace BK127 := sJ BK127 hb
            replace HB := sA (below_step sH hb)
            (try clear hb)
            (try clear hb2)
            (try clear hk)
            (try clear hi)
            (try clear ho0)
            obtain ⟨Ao115, co115, eo115⟩ := Kd.R_slice HO123.out
            (first | subst eo115 | (injection eo115 with f1_ f2_ f3_; have f4_ := f1_.symm; have f5_ := f3_.symm; clear f1_ f2_ f3_; subst f4_; subst f5_))
            refine hK.out _ _ ⟨sC BK101 0 rfl, sC BK101 1 rfl, sC BK101 2 rfl, sC BK109 0 rfl⟩ (fun hHeld => ?_)
            clear hK K
            refine norm_ (a' := ?_) ?_ ?_
            rotate_left
            ·show Act.put _ (some 65) _ = _
             simp only [Act.put, sI, sZ, sV, i64_w, i32_w]
             rfl
            refine one_ (i := 7) (N := some 67) (sM 11 767) rfl rfl (one_of HT_.out (by kernel_rfl)) (by decide) (fun K hK => ?_)
            refine goes_ Try.func46 (by kernel_rfl) rfl #[.slice Ao115 t121.length co115, .func (.func 47) #[] #[.pointer (some ⟨gb109, 0, none⟩)]] (by rfl) rfl rfl sG ?_
            with_reducible refine (slices_DeleteFunc_int_int.calls (fun k_ => some k_ = (.slice Ao115 t121.length co115 : Value).ownBlock) (.slice Ao115 t121.length co115) t121 Ao26 co26 t105 t124 w _ ?side1 ?side2 ?side3 ?side4 A61.out (B := gb109) ?sideI).mono ?_
            (case sideI => exact fun W_ hkp => (blk_cell (blk_kept (sB BK109.out) hkp (fun hs_ => (fun e_ => (Kd.R_ne HO123.out BK109.out (by decide)) e_) hs_)) 0).trans rfl)
            (case side1 => repeat (first | (with_reducible first | exact HB.out | apply sLA | apply sLN | apply sLD | refine sLS ?_ GE101.out | refine sLS ?_ GE102.out | refine sLS ?_ GE109.out | refine sLS ?_ GE127.out) | exact HB.out))
            (case side2 => exact Kd.R_tight rfl HO123.out)
            (case side3 => exact Kd.C_kept_own ((Kd.R_apart' HO_110000.out (Kd.R_typed HO123.out) (by decide))) (fun k_ hk_ hs_ => (hk_.2) hs_))
            (case side4 => exact (Kd.R_reads' HO_110000.out).2.1)
            rintro e w116 ⟨v125, rfl, ho0, hb, hkp⟩
            refine ⟨_, rfl, ?_⟩
            replace HO_110000 := sA (Kd.R_mono (ok' := fun k_ => True) (Kd.R_keptB ((Kd.R_apart' HO_110000.out (Kd.R_typed HO123.out) (by decide))) hkp (fun k_ hk_ hs_ => (hk_.2) hs_)) (fun k_ hk_ => trivial))
            replace BK101 := sA (blk_kept (sB BK101.out) hkp (fun hs_ => (fun e_ => (Kd.R_ne HO123.out BK101.out (by decide)) e_) hs_))
            replace BK102 := sA (blk_kept (sB BK102.out) hkp (fun hs_ => (fun e_ => (Kd.R_ne HO123.out BK102.out (by decide)) e_) hs_))
            replace BK109 := sA (blk_kept (sB BK109.out) hkp (fun hs_ => (fun e_ => (Kd.R_ne HO123.out BK109.out (by decide)) e_) hs_))
            replace BK127 := sA (blk_kept (sB BK127.out) hkp (fun hs_ => (fun e_ => (Kd.R_ne HO123.out BK127.out (by decide)) e_) hs_))
            have HO126 := sA (Kd.R_mono (ok' := fun k_ => some k_ ≠ (u10 : Value).ownBlock ∧ some k_ ≠ (v114 : Value).ownBlock) ho0 (fun k_ hk_ => ⟨Or.elim hk_ (fun hs_ => fun e_ => (((HO_10.out).1 k_ e_.symm).2) hs_) (fun hn_ => (Kd.fresh' (Kd.R_lt (sR HO_10.out)) k_ hn_)), Or.elim hk_ (fun hs_ => fun e_ => (((HO_11.out).1 k_ e_.symm).2) hs_) (fun hn_ => (Kd.fresh' (Kd.R_lt (sR HO_11.out)) k_ hn_))⟩))
            replace HO_10 := sA (Kd.R_mono (ok' := fun k_ => some k_ ≠ (v114 : Value).ownBlock ∧ some k_ ≠ (v125 : Value).ownBlock) (Kd.R_keptB (HO_10.out) hkp (fun k_ hk_ hs_ => (hk_.2) hs_)) (fun k_ hk_ => ⟨hk_.1.1, fun e_ => Or.elim (ho0.1 k_ e_.symm) (fun hs_ => hk_.2.1 hs_) (fun hn_ => Nat.not_le.2 hk_.2.2 hn_)⟩))
            replace HO_11 := sA (Kd.R_mono (ok' := fun k_ => some k_ ≠ (u10 : Value).ownBlock ∧ some k_ ≠ (v125 : Value).ownBlock) (Kd.R_keptB (HO_11.out) hkp (fun k_ hk_ hs_ => (hk_.2) hs_)) (fun k_ hk_ => ⟨hk_.1.1, fun e_ => Or.elim (ho0.1 k_ e_.symm) (fun hs_ => hk_.2.1 hs_) (fun hn_ => Nat.not_le.2 hk_.2.2 hn_)⟩))
            replace HB := sA (hb)
            clear HO123
            (try clear hb)
            (try clear hkp)
            (try clear ho0)
            obtain ⟨Ao117, co117, eo117⟩ := Kd.R_slice HO126.out
            (first | subst eo117 | (injection eo117 with f1_ f2_ f3_; have f4_ := f1_.symm; have f5_ := f3_.symm; clear f1_ f2_ f3_; subst f4_; subst f5_))
            refine hK.out _ _ ⟨sC BK101 0 rfl, sC BK101 1 rfl, sC BK101 2 rfl, sC BK109 0 rfl⟩ (fun hHeld => ?_)
            clear hK K
            refine norm_ (a' := ?_) ?_ ?_
            rotate_left
            ·show Act.put _ (some 67) _ = _
             simp only [Act.put, sI, sZ, sV, i64_w, i32_w]
             rfl
            refine sP (v := ?_) (a' := ?_) 8 68 (sM 11 1023) HT_ ?_ ?_ ?_; rotate_left 2
            ·intro w'; go_simp; with_reducible rfl
            ·simp only [Act.put, sI, sZ, sV, i64_w, i32_w]; rfl
            exact norm_ (by simp only [putAll, Act.put, sI, sZ, sV]) (hCont (.slice Ao115 t121.length co115, .slice Ao117 t124.length co117, gb127) _ ⟨hHeld, (sR HO126.out), (sR (Kd.R_mono HO_10.out (fun _ hk => ⟨hk.2, hk.1⟩))), (sR (Kd.R_mono HO_11.out (fun _ hk => ⟨hk.2, hk.1⟩))), (sR HO_110000.out), (sB BK101.out), (sB BK102.out), (sB BK109.out), (sB BK127.out), GW127.out, GE127.out, NB101_127.out, NB127_101.out, NB102_127.out, NB127_102.out, NB109_127.out, NB127_109.out, sH⟩)
          rintro ⟨v122, v125, gb127⟩ w118 ⟨hS_, h0_, h1_, h2_, h3_, h4_, h5_, h6_, h7_, h8_, h9_, h10_, h11_, h12_, h13_, h14_, h15_, h16_⟩
          have n0_ : Aside0 (Kd.R (Kd.int .i64) 3 w118 w.heap.size (fun k_ => some k_ ≠ (u10 : Value).ownBlock ∧ some k_ ≠ (v114 : Value).ownBlock) v125 t124) := ⟨h0_⟩
          have n1_ : Aside0 (Kd.R (Kd.int .i64) 3 w118 w.heap.size (fun k_ => some k_ ≠ (v125 : Value).ownBlock ∧ some k_ ≠ (v114 : Value).ownBlock) u10 x10_2) := ⟨h1_⟩
          have n2_ : Aside0 (Kd.R (Kd.int .i64) 3 w118 w.heap.size (fun k_ => some k_ ≠ (v125 : Value).ownBlock ∧ some k_ ≠ (u10 : Value).ownBlock) v114 y113) := ⟨h2_⟩
          have n3_ : Aside0 (Kd.R k59 59 w118 w.heap.size (fun _ => True) (.slice Ao26 t105.length co26) t105) := ⟨h3_⟩
          have n4_ : Aside0 (w118.heap[gb101]? = some (.cells #[.int .i64 a0_0, .slice A0_1 l0_1.length c0_1, .slice A0_2 l0_2.length c0_2] 31 (0, 0))) := ⟨h4_⟩
          have n5_ : Aside0 (w118.heap[gb102]? = some (.cells #[.int .i64 0, .slice none 0 0, .slice none 0 0] 31 (0, 0))) := ⟨h5_⟩
          have n6_ : Aside0 (w118.heap[gb109]? = some (.cells #[.slice Ao26 t105.length co26] 29 (0, 0))) := ⟨h6_⟩
          have n7_ : Aside0 (w118.heap[gb127]? = some (.cells #[.int .i64 0, .slice none 0 0, .slice none 0 0] 31 (0, 0))) := ⟨h7_⟩
          have n8_ : Aside0 (w.heap.size ≤ gb127) := ⟨h8_⟩
          have n9_ : Aside0 (w.heap.size ≤ gb127) := ⟨h9_⟩
          have n10_ : Aside0 (gb101 ≠ gb127) := ⟨h10_⟩
          have n11_ : Aside0 (gb127 ≠ gb101) := ⟨h11_⟩
          have n12_ : Aside0 (gb102 ≠ gb127) := ⟨h12_⟩
          have n13_ : Aside0 (gb127 ≠ gb102) := ⟨h13_⟩
          have n14_ : Aside0 (gb109 ≠ gb127) := ⟨h14_⟩
          have n15_ : Aside0 (gb127 ≠ gb109) := ⟨h15_⟩
          have n16_ : Aside0 (Below w.heap.size w w118) := ⟨h16_⟩
          clear HO_10 HO_11 HO_110000 BK101 BK102 BK109 HB
          clear h0_ h1_ h2_ h3_ h4_ h5_ h6_ h7_ h8_ h9_ h10_ h11_ h12_ h13_ h14_ h15_ h16_
          have HO126 := n0_
          have HO_10 := n1_
          have HO_11 := n2_
          have HO_110000 := n3_
          have BK101 := n4_
          have BK102 := n5_
          have BK109 := n6_
          have BK127 := n7_
          have GW127 := n8_
          have GE127 := n9_
          have NB101_127 := n10_
          have NB127_101 := n11_
          have NB102_127 := n12_
          have NB127_102 := n13_
          have NB109_127 := n14_
          have NB127_109 := n15_
          have HB := n16_
          clear n0_ n1_ n2_ n3_ n4_ n5_ n6_ n7_ n8_ n9_ n10_ n11_ n12_ n13_ n14_ n15_ n16_
          have hHeld : w118.cell? ⟨gb101, 0, none⟩ = some (.int .i64 a0_0) ∧ w118.cell? ⟨gb101, 1, none⟩ = some (.slice A0_1 l0_1.length c0_1) ∧ w118.cell? ⟨gb101, 2, none⟩ = some (.slice A0_2 l0_2.length c0_2) ∧ w118.cell? ⟨gb109, 0, none⟩ = some (.slice Ao26 t105.length co26) := hS_
          obtain ⟨Ao119, co119, eo119⟩ := Kd.R_slice HO126.out
          (first | subst eo119 | (injection eo119 with f1_ f2_ f3_; have f4_ := f1_.symm; have f5_ := f3_.symm; clear f1_ f2_ f3_; subst f4_; subst f5_))
          refine norm_ (a' := ?_) ?_ ?_
          rotate_left
          ·simp only [putAll, Act.put, sI, sZ, sV]
           rfl
          refine one_ (i := 10) (N := none) (sM 11 2047) rfl rfl (one_of HT_.out (by kernel_rfl)) (by decide) (fun K hK => ?_)
          have hs120 : w118.cell? ⟨gb127, 0, none⟩ = some (.int .i64 0) := sC BK127 0 rfl
          have hfs120 := blk_frozen BK127.out 0
          have hns120_0 := NB101_127.out
          have hns120_1 := NB102_127.out
          have hns120_2 := NB109_127.out
          have hms120_0 := NB127_101.out
          have hms120_1 := NB127_102.out
          have hms120_2 := NB127_109.out
          have hs121 : w118.cell? ⟨gb127, 1, none⟩ = some (.slice none 0 0) := sC BK127 1 rfl
          have hfs121 := blk_frozen BK127.out 1
          have hns121_0 := NB101_127.out
          have hns121_1 := NB102_127.out
          have hns121_2 := NB109_127.out
          have hms121_0 := NB127_101.out
          have hms121_1 := NB127_102.out
          have hms121_2 := NB127_109.out
          have hs122 : w118.cell? ⟨gb127, 2, none⟩ = some (.slice none 0 0) := sC BK127 2 rfl
          have hfs122 := blk_frozen BK127.out 2
          have hns122_0 := NB101_127.out
          have hns122_1 := NB102_127.out
          have hns122_2 := NB109_127.out
          have hms122_0 := NB127_101.out
          have hms122_1 := NB127_102.out
          have hms122_2 := NB127_109.out
          refine skip_ (w1 := ?_) (by rfl) rfl ?_ ?_
          rotate_left
          ·go_simp
           rfl
          refine hK.out _ _ ⟨((cell_far (p := ⟨gb127, _, none⟩) NB101_127.out _).trans (((cell_far (p := ⟨gb127, _, none⟩) NB101_127.out _).trans (((cell_far (p := ⟨gb127, _, none⟩) NB101_127.out _).trans (hHeld.1)))))), ((cell_far (p := ⟨gb127, _, none⟩) NB101_127.out _).trans (((cell_far (p := ⟨gb127, _, none⟩) NB101_127.out _).trans (((cell_far (p := ⟨gb127, _, none⟩) NB101_127.out _).trans (hHeld.2.1)))))), ((cell_far (p := ⟨gb127, _, none⟩) NB101_127.out _).trans (((cell_far (p := ⟨gb127, _, none⟩) NB101_127.out _).trans (((cell_far (p := ⟨gb127, _, none⟩) NB101_127.out _).trans (hHeld.2.2.1)))))), ((cell_far (p := ⟨gb127, _, none⟩) NB109_127.out _).trans (((cell_far (p := ⟨gb127, _, none⟩) NB109_127.out _).trans (((cell_far (p := ⟨gb127, _, none⟩) NB109_127.out _).trans (hHeld.2.2.2))))))⟩ (fun hHeld => ?_)
          clear hK K
          refine done_ (done_of HT_.out (by kernel_rfl)) ?_
          have := NB109_101.out
          have := NB101_109.out
          have := NB109_102.out
          have := NB102_109.out
          have := NB109_127.out
          have := NB127_109.out
          obtain ⟨_, _⟩ := sD1 BK109
          have := NB127_101.out
          have := NB101_127.out
          have := NB127_102.out
          have := NB102_127.out
          obtain ⟨_, _, _, _, _, _⟩ := sD3 BK127
          obtain ⟨Ao131, co131, eo131⟩ := Kd.R_slice HO_11.out
          subst eo131
          try go_wp2_with (first | ((with_reducible refine gate_builtin (b := .append) (xs := #[.tmp 96, .tmp 97]) rfl ?_); at_builtin; refine Kd.R_append_rows (Kd.int .i64) (w0 := w) w.heap.size rfl (.tmp 96) (.tmp 97) 23 3 (.int .i64 0) 8 rfl Try.underlying23 info3 rfl (by decide) (by omega) (.slice Ao119 t124.length co119) t124 y113 _ _ _ (fun k_ => some k_ ≠ (u10 : Value).ownBlock ∧ some k_ ≠ (.slice Ao131 y113.length co131 : Value).ownBlock) (fun _ => False) rfl rfl ?aO ?aR (fun _ _ h => h) (fun _ h => h.elim) ?aF ?aB ?aS ?aL ?_; (case aR => exact (Kd.R_reads' (sE HO_11 BK127 (by decide))).2.2); (case aB => exact sH); (case aF => exact (fun k_ hk => ⟨Kd.fresh' (Kd.R_lt (sE HO_10 BK127 (by decide))) k_ hk, Kd.fresh' (Kd.R_lt (sE HO_11 BK127 (by decide))) k_ hk⟩)); (case aO => exact (sR (Kd.R_mono (Kd.R_far (p := ⟨gb127, 2, none⟩) (Kd.R_far (p := ⟨gb127, 1, none⟩) (Kd.R_far (p := ⟨gb127, 0, none⟩) (Kd.R_types HO126.out BK127.out (by decide)) (fun _ hk => hk.2) (.int .i64 a0_0)) (fun _ hk => hk.2) (.slice Ao26 t105.length co26)) (fun _ hk => hk.2) (.slice Ao119 t124.length co119)) (fun _ hk => ⟨hk.1.1, hk.1.2⟩)))); (case aS => exact (below_size sH)); (case aL => have := LMc110.out; omega); intro v141 w130 ho hb hg hat; rw [← Ny140.out] at ho; replace HO_10 := sA (Kd.R_after (ok := (fun k_ => some k_ ≠ (.slice Ao131 y113.length co131 : Value).ownBlock)) (sR (Kd.R_mono (Kd.R_far (p := ⟨gb127, 2, none⟩) (Kd.R_far (p := ⟨gb127, 1, none⟩) (Kd.R_far (p := ⟨gb127, 0, none⟩) (Kd.R_types HO_10.out BK127.out (by decide)) (fun _ hk => hk.2) (.int .i64 a0_0)) (fun _ hk => hk.2) (.slice Ao26 t105.length co26)) (fun _ hk => hk.2) (.slice Ao119 t124.length co119)) (fun _ hk => ⟨hk.1.2, hk.1.1⟩))) hg hat); replace HO_11 := sA (Kd.R_after (ok := (fun k_ => some k_ ≠ (u10 : Value).ownBlock)) (sR (Kd.R_mono (Kd.R_far (p := ⟨gb127, 2, none⟩) (Kd.R_far (p := ⟨gb127, 1, none⟩) (Kd.R_far (p := ⟨gb127, 0, none⟩) (Kd.R_types HO_11.out BK127.out (by decide)) (fun _ hk => hk.2) (.int .i64 a0_0)) (fun _ hk => hk.2) (.slice Ao26 t105.length co26)) (fun _ hk => hk.2) (.slice Ao119 t124.length co119)) (fun _ hk => ⟨hk.1.2, hk.1.1⟩))) hg hat); replace HO_110000 := sA (Kd.R_over' (sE HO_110000 BK127 (by decide)) (Kd.R_typed (sE HO126 BK127 (by decide))) (by decide) hg); replace BK101 := sA (blk_grown (g := gb101) (o := .cells #[.int .i64 a0_0, .slice A0_1 l0_1.length c0_1, .slice A0_2 l0_2.length c0_2] 31 (0, 0)) (sF BK101 NB101_127) hg (Kd.R_ne HO126.out BK101.out (by decide))); replace BK102 := sA (blk_grown (g := gb102) (o := .cells #[.int .i64 0, .slice none 0 0, .slice none 0 0] 31 (0, 0)) (sF BK102 NB102_127) hg (Kd.R_ne HO126.out BK102.out (by decide))); replace BK109 := sA (blk_grown (g := gb109) (o := .cells #[.slice Ao26 t105.length co26] 29 (0, 0)) (sF BK109 NB109_127) hg (Kd.R_ne HO126.out BK109.out (by decide))); replace BK127 := sA (blk_grown (g := gb127) (o := .cells #[.int .i64 a0_0, .slice Ao26 t105.length co26, .slice Ao119 t124.length co119] 31 (0, 0)) (by (with_reducible repeat first | apply blk_drewN | apply blk_drew | apply blk_alloc); refine blk_put (cs := #[.int .i64 a0_0, .slice Ao26 t105.length co26, .slice none 0 0]) ?_ 2 _ rfl; (with_reducible repeat first | apply blk_drewN | apply blk_drew | apply blk_alloc); refine blk_put (cs := #[.int .i64 a0_0, .slice none 0 0, .slice none 0 0]) ?_ 1 _ rfl; (with_reducible repeat first | apply blk_drewN | apply blk_drew | apply blk_alloc); refine blk_put (cs := #[.int .i64 0, .slice none 0 0, .slice none 0 0]) ?_ 0 _ rfl; (with_reducible repeat first | apply blk_drewN | apply blk_drew | apply blk_alloc); exact BK127.out) hg (Kd.R_ne HO126.out BK127.out (by decide))); replace HB := sA (hb); have HO142 := sA (ho); clear HO126; clear ho hb hg hat; obtain ⟨Ao132, co132, eo132⟩ := Kd.R_slice HO142.out; subst eo132; obtain ⟨_, _, _, _, _, _⟩ := sD3 BK127) | ((with_reducible refine gate_store (t := 23) (p := 99) rfl ?_); refine store_event (t := 23) (p := 99) (v := ?vo_w134) (w1 := (w130.setCell ⟨gb127, 2, none⟩ (.slice Ao132 y140.length co132))) ?hg ?ho ?hn ?hr ?_; (case ho => rfl); (case hg => rfl); (case hn => rfl); (case hr => first | (go_simp; done) | (go_simp; rfl)); intro w134 hw; have n0_ : Aside0 (Kd.R (Kd.int .i64) 3 w134 w.heap.size (fun k_ => some k_ ≠ (.slice Ao131 y113.length co131 : Value).ownBlock ∧ some k_ ≠ (.slice Ao132 y140.length co132 : Value).ownBlock) u10 x10_2) := ⟨(by rw [hw]; exact (sR (Kd.R_mono (Kd.R_far (p := ⟨gb127, 2, none⟩) (Kd.R_types HO_10.out BK127.out (by decide)) (fun _ hk => hk.2) (.slice Ao132 y140.length co132)) (fun _ hk => ⟨hk.1.1, hk.1.2⟩))))⟩; have n1_ : Aside0 (Kd.R (Kd.int .i64) 3 w134 w.heap.size (fun k_ => some k_ ≠ (u10 : Value).ownBlock ∧ some k_ ≠ (.slice Ao132 y140.length co132 : Value).ownBlock) (.slice Ao131 y113.length co131) y113) := ⟨(by rw [hw]; exact (sR (Kd.R_mono (Kd.R_far (p := ⟨gb127, 2, none⟩) (Kd.R_types HO_11.out BK127.out (by decide)) (fun _ hk => hk.2) (.slice Ao132 y140.length co132)) (fun _ hk => ⟨hk.1.1, hk.1.2⟩))))⟩; have n2_ : Aside0 (Kd.R k59 59 w134 w.heap.size (fun _ => True) (.slice Ao26 t105.length co26) t105) := ⟨(by rw [hw]; exact (sR (Kd.R_mono (Kd.R_far (p := ⟨gb127, 2, none⟩) (Kd.R_types HO_110000.out BK127.out (by decide)) (fun _ hk => hk.2) (.slice Ao132 y140.length co132)) (fun _ hk => trivial))))⟩; have n3_ : Aside0 (Kd.R (Kd.int .i64) 3 w134 w.heap.size (fun k_ => some k_ ≠ (u10 : Value).ownBlock ∧ some k_ ≠ (.slice Ao131 y113.length co131 : Value).ownBlock) (.slice Ao132 y140.length co132) y140) := ⟨(by rw [hw]; exact (sR (Kd.R_mono (Kd.R_far (p := ⟨gb127, 2, none⟩) (Kd.R_types HO142.out BK127.out (by decide)) (fun _ hk => hk.2) (.slice Ao132 y140.length co132)) (fun _ hk => ⟨hk.1.1, hk.1.2⟩))))⟩; have n4_ : Aside0 (w134.heap[gb101]? = some (.cells #[.int .i64 a0_0, .slice A0_1 l0_1.length c0_1, .slice A0_2 l0_2.length c0_2] 31 (0, 0))) := ⟨(by rw [hw]; exact (by (with_reducible repeat first | apply blk_drewN | apply blk_drew | apply blk_alloc); refine blk_far ?_ NB101_127.out _; (with_reducible repeat first | apply blk_drewN | apply blk_drew | apply blk_alloc); exact BK101.out))⟩; have n5_ : Aside0 (w134.heap[gb102]? = some (.cells #[.int .i64 0, .slice none 0 0, .slice none 0 0] 31 (0, 0))) := ⟨(by rw [hw]; exact (by (with_reducible repeat first | apply blk_drewN | apply blk_drew | apply blk_alloc); refine blk_far ?_ NB102_127.out _; (with_reducible repeat first | apply blk_drewN | apply blk_drew | apply blk_alloc); exact BK102.out))⟩; have n6_ : Aside0 (w134.heap[gb109]? = some (.cells #[.slice Ao26 t105.length co26] 29 (0, 0))) := ⟨(by rw [hw]; exact (by (with_reducible repeat first | apply blk_drewN | apply blk_drew | apply blk_alloc); refine blk_far ?_ NB109_127.out _; (with_reducible repeat first | apply blk_drewN | apply blk_drew | apply blk_alloc); exact BK109.out))⟩; have n7_ : Aside0 (w134.heap[gb127]? = some (.cells #[.int .i64 a0_0, .slice Ao26 t105.length co26, .slice Ao132 y140.length co132] 31 (0, 0))) := ⟨(by rw [hw]; exact (by (with_reducible repeat first | apply blk_drewN | apply blk_drew | apply blk_alloc); refine blk_put (cs := #[.int .i64 a0_0, .slice Ao26 t105.length co26, .slice Ao119 t124.length co119]) ?_ 2 _ rfl; (with_reducible repeat first | apply blk_drewN | apply blk_drew | apply blk_alloc); exact BK127.out))⟩; have n8_ : Aside0 (Below w.heap.size w w134) := ⟨(by rw [hw]; exact sH)⟩; clear hw HO_10 HO_11 HO_110000 HO142 BK101 BK102 BK109 BK127 HB; have HO_10 := n0_; have HO_11 := n1_; have HO_110000 := n2_; have HO142 := n3_; have BK101 := n4_; have BK102 := n5_; have BK109 := n6_; have BK127 := n7_; have HB := n8_; clear n0_ n1_ n2_ n3_ n4_ n5_ n6_ n7_ n8_; obtain ⟨_, _, _, _, _, _⟩ := sD3 BK127) | ((with_reducible refine gate_callee (f := 48) rfl ?_); refine goesL_ (some 102) rfl rfl Try.func48 (by kernel_rfl) rfl #[.slice Ao132 y140.length co132] rfl sG ?_; (with_reducible refine (slices_Sort_int_int.calls (fun k_ => some k_ = (.slice Ao132 y140.length co132 : Value).ownBlock) (.slice Ao132 y140.length co132) y140 t143 w _ ?side1 ?side2 A111.out).mono ?_); (case side1 => repeat (first | (with_reducible first | exact HB.out | apply sLA | apply sLN | apply sLD | refine sLS ?_ GE101.out | refine sLS ?_ GE102.out | refine sLS ?_ GE109.out | refine sLS ?_ GE127.out) | exact HB.out)); (case side2 => exact Kd.R_tight rfl HO142.out); rintro e w136 ⟨rfl, hy0, hb, hkp⟩; refine ⟨_, rfl, ?_⟩; replace HO_10 := sA (Kd.R_mono (ok' := fun k_ => some k_ ≠ (.slice Ao131 y113.length co131 : Value).ownBlock ∧ some k_ ≠ (.slice Ao132 y140.length co132 : Value).ownBlock) (Kd.R_keptB (HO_10.out) hkp (fun k_ hk_ hs_ => (hk_.2) hs_)) (fun k_ hk_ => ⟨hk_.1.1, hk_.1.2⟩)); replace HO_11 := sA (Kd.R_mono (ok' := fun k_ => some k_ ≠ (u10 : Value).ownBlock ∧ some k_ ≠ (.slice Ao132 y140.length co132 : Value).ownBlock) (Kd.R_keptB (HO_11.out) hkp (fun k_ hk_ hs_ => (hk_.2) hs_)) (fun k_ hk_ => ⟨hk_.1.1, hk_.1.2⟩)); replace HO_110000 := sA (Kd.R_mono (ok' := fun k_ => True) (Kd.R_keptB ((Kd.R_apart' HO_110000.out (Kd.R_typed HO142.out) (by decide))) hkp (fun k_ hk_ hs_ => (hk_.2) hs_)) (fun k_ hk_ => trivial)); replace BK101 := sA (blk_kept (sB BK101.out) hkp (fun hs_ => (fun e_ => (Kd.R_ne HO142.out BK101.out (by decide)) e_) hs_)); replace BK102 := sA (blk_kept (sB BK102.out) hkp (fun hs_ => (fun e_ => (Kd.R_ne HO142.out BK102.out (by decide)) e_) hs_)); replace BK109 := sA (blk_kept (sB BK109.out) hkp (fun hs_ => (fun e_ => (Kd.R_ne HO142.out BK109.out (by decide)) e_) hs_)); replace BK127 := sA (blk_kept (sB BK127.out) hkp (fun hs_ => (fun e_ => (Kd.R_ne HO142.out BK127.out (by decide)) e_) hs_)); replace HO142 := sA (Kd.R_reok rfl hy0 (fun k_ e_ => HO142.out.1 k_ e_)); replace HB := sA (hb); (try clear hb); (try clear hkp); (try clear hy0); obtain ⟨_, _, _, _, _, _⟩ := sD3 BK127; have := NB102_101.out; have := NB101_102.out; obtain ⟨_, _, _, _, _, _⟩ := sD3 BK102))
          refine bodyPost_ret (results_list (rs := [.cell 4 31, .tmp 5, .tmp 6, .tmp 7]) rfl (by simp) (.cell gb102 31 #[.int .i64 a0_0, .slice Ao26 t105.length co26, .slice Ao132 y140.length co132] (0, 0) _ rfl (by (with_reducible repeat first | apply blk_drewN | apply blk_drew | apply blk_alloc); refine blk_put (cs := #[.int .i64 a0_0, .slice Ao26 t105.length co26, .slice none 0 0]) ?_ 2 _ rfl; (with_reducible repeat first | apply blk_drewN | apply blk_drew | apply blk_alloc); refine blk_put (cs := #[.int .i64 a0_0, .slice none 0 0, .slice none 0 0]) ?_ 1 _ rfl; (with_reducible repeat first | apply blk_drewN | apply blk_drew | apply blk_alloc); refine blk_put (cs := #[.int .i64 0, .slice none 0 0, .slice none 0 0]) ?_ 0 _ rfl; (with_reducible repeat first | apply blk_drewN | apply blk_drew | apply blk_alloc); exact BK102.out) Try.underlying31 rfl (by kernel_rfl) (.tmp (.tmp (.tmp .nil))))) rfl ?_
          exact ⟨_, _, _, _, by first | rfl | (simp [errW_none, errW_some] <;> rfl) | (simp [*, errW_none, errW_some] <;> rfl), by (with_reducible repeat (first | apply Kd.R_alloc | apply Kd.R_drewN | apply Kd.R_drew)); exact Kd.R_mono (Kd.R_far (p := ⟨gb102, 2, none⟩) (Kd.R_far (p := ⟨gb102, 1, none⟩) (Kd.R_far (p := ⟨gb102, 0, none⟩) (Kd.R_types HO_110000.out BK102.out (by decide)) (fun _ hk => hk.2) (.int .i64 a0_0)) (fun _ hk => hk.2) (.slice Ao26 t105.length co26)) (fun _ hk => hk.2) (.slice Ao132 y140.length co132)) (fun _ hk => trivial), by (with_reducible repeat (first | apply Kd.R_alloc | apply Kd.R_drewN | apply Kd.R_drew)); exact Kd.R_mono (Kd.R_far (p := ⟨gb102, 2, none⟩) (Kd.R_far (p := ⟨gb102, 1, none⟩) (Kd.R_far (p := ⟨gb102, 0, none⟩) (Kd.R_types HO142.out BK102.out (by decide)) (fun _ hk => hk.2) (.int .i64 a0_0)) (fun _ hk => hk.2) (.slice Ao26 t105.length co26)) (fun _ hk => hk.2) (.slice Ao132 y140.length co132)) (fun _ hk => ⟨hk.1.1, hk.1.2⟩), by (with_reducible repeat (first | apply Kd.R_alloc | apply Kd.R_drewN | apply Kd.R_drew)); exact Kd.R_mono (Kd.R_far (p := ⟨gb102, 2, none⟩) (Kd.R_far (p := ⟨gb102, 1, none⟩) (Kd.R_far (p := ⟨gb102, 0, none⟩) (Kd.R_types HO_10.out BK102.out (by decide)) (fun _ hk => hk.2) (.int .i64 a0_0)) (fun _ hk => hk.2) (.slice Ao26 t105.length co26)) (fun _ hk => hk.2) (.slice Ao132 y140.length co132)) (fun _ hk => ⟨hk.1.2, hk.1.1⟩), by (with_reducible repeat (first | apply Kd.R_alloc | apply Kd.R_drewN | apply Kd.R_drew)); exact Kd.R_mono (Kd.R_far (p := ⟨gb102, 2, none⟩) (Kd.R_far (p := ⟨gb102, 1, none⟩) (Kd.R_far (p := ⟨gb102, 0, none⟩) (Kd.R_types HO_11.out BK102.out (by decide)) (fun _ hk => hk.2) (.int .i64 a0_0)) (fun _ hk => hk.2) (.slice Ao26 t105.length co26)) (fun _ hk => hk.2) (.slice Ao132 y140.length co132)) (fun _ hk => ⟨hk.1.2, hk.1.1⟩), by repeat (first | (with_reducible first | exact HB.out | apply sLA | apply sLN | apply sLD | refine sLS ?_ GE101.out | refine sLS ?_ GE102.out | refine sLS ?_ GE109.out | refine sLS ?_ GE127.out) | exact HB.out)⟩
         ·rw [if_neg c110] at H
          exact absurd H (by simp)
    ·replace c21 := Bool.eq_false_iff.mpr c21
     subst c21
     replace H := sX H
     simp only [Option.some.injEq, Prod.mk.injEq] at H
     obtain ⟨rfl, rfl, rfl, rfl, rfl, rfl⟩ := H
     have := NB101_102.out
     have := NB102_101.out
     obtain ⟨_, _, _, _, _, _⟩ := sD3 BK101
     go_wp2_with (first | ((with_reducible refine gate_callee (f := 44) rfl ?_); refine goesL_ (some 32) rfl rfl Try.func44 (by kernel_rfl) rfl #[.slice A0_1 l0_1.length c0_1, .slice A1 l1.length c1] rfl sG ?_; (with_reducible refine (impl_JoinSpans.calls kj2 (fun k_ => k_ < w.heap.size) _ _ l0_1 (fun k_ => k_ < w.heap.size) _ _ l1 t105 false _ ?side1 ?side2 A20.out).mono ?_); (case side1 => exact Kd.V_mk HC0_1.out (Kd.F_below (Kd.C_F k59_heap HR0_1.out) sH)); (case side2 => exact Kd.V_mk HC1.out (Kd.F_below (Kd.C_F k59_heap HR1.out) sH)); rintro e w142 ⟨v106, rfl, ho0, hb⟩; refine ⟨_, rfl, ?_⟩; have HO107 := sA (Kd.R_lower (Kd.R_mono (ok' := fun k_ => True) ho0 (fun _ hk_ => trivial)) (below_size sH)); replace BK101 := sJ BK101 hb; replace BK102 := sJ BK102 hb; replace HB := sA (below_step sH hb); (try clear hb); (try clear hb2); (try clear hk); (try clear hi); (try clear ho0)) | ((with_reducible refine gate_dst (N := 8) rfl ?_); refine box_event ?hg (N := 8) ?hd (cs := #[.slice none 0 0]) (t := 29) ?hr ?_; (case hd => rfl); (case hg => rfl); (case hr => first | (go_simp; done) | (go_simp; rfl)); intro gb109 hg w143 hbox hb; replace HO107 := sS HO107 hb; have BK109 := sA (hbox); have GW109 := sA ((by rw [hg]; exact (below_size sH) : w.heap.size ≤ gb109)); have GE109 := sA ((by rw [hg]; exact (below_size sH) : w.heap.size ≤ gb109)); replace HB := sA (below_step sH hb); have NB101_109 := sA ((by rw [hg]; exact Nat.ne_of_lt (blk_lt (sB BK101.out)) : gb101 ≠ gb109)); have NB109_101 := sA ((by rw [hg]; exact Nat.ne_of_gt (blk_lt (sB BK101.out)) : gb109 ≠ gb101)); replace BK101 := sJ BK101 hb; have NB102_109 := sA ((by rw [hg]; exact Nat.ne_of_lt (blk_lt (sB BK102.out)) : gb102 ≠ gb109)); have NB109_102 := sA ((by rw [hg]; exact Nat.ne_of_gt (blk_lt (sB BK102.out)) : gb109 ≠ gb102)); replace BK102 := sJ BK102 hb; clear hb hbox hg; obtain ⟨Ao144, co144, eo144⟩ := Kd.R_slice HO107.out; subst eo144; have := NB109_101.out; have := NB101_109.out; have := NB109_102.out; have := NB102_109.out; obtain ⟨_, _⟩ := sD1 BK109; obtain ⟨_, _, _, _, _, _⟩ := sD3 BK102))
     refine bodyPost_ret (results_list (rs := [.cell 4 31, .tmp 5, .tmp 6, .tmp 7]) rfl (by simp) (.cell gb102 31 #[.int .i64 0, .slice none 0 0, .slice none 0 0] (0, 0) _ rfl (by (with_reducible repeat first | apply blk_drewN | apply blk_drew | apply blk_alloc); refine blk_put (cs := #[.int .i64 0, .slice none 0 0, .slice none 0 0]) ?_ 2 _ rfl; (with_reducible repeat first | apply blk_drewN | apply blk_drew | apply blk_alloc); refine blk_put (cs := #[.int .i64 0, .slice none 0 0, .slice none 0 0]) ?_ 1 _ rfl; (with_reducible repeat first | apply blk_drewN | apply blk_drew | apply blk_alloc); refine blk_put (cs := #[.int .i64 0, .slice none 0 0, .slice none 0 0]) ?_ 0 _ rfl; (with_reducible repeat first | apply blk_drewN | apply blk_drew | apply blk_alloc); refine blk_far ?_ NB102_109.out _; (with_reducible repeat first | apply blk_drewN | apply blk_drew | apply blk_alloc); exact BK102.out) Try.underlying31 rfl (by kernel_rfl) (.tmp (.tmp (.tmp .nil))))) rfl ?_
     exact ⟨_, _, _, _, by first | rfl | (simp [errW_none, errW_some] <;> rfl) | (simp [*, errW_none, errW_some] <;> rfl), by first | exact Kd.R_nil _ _ _ _ _ | exact Kd.N_nil _ _ _ _ _ | exact Kd.V_nil _ _ _ _ _ | exact Kd.Q_nil _ _ _ _ _ | exact Kd.S_nil _ _ _ _ _, by first | exact Kd.R_nil _ _ _ _ _ | exact Kd.N_nil _ _ _ _ _ | exact Kd.V_nil _ _ _ _ _ | exact Kd.Q_nil _ _ _ _ _ | exact Kd.S_nil _ _ _ _ _, by first | exact Kd.R_nil _ _ _ _ _ | exact Kd.N_nil _ _ _ _ _ | exact Kd.V_nil _ _ _ _ _ | exact Kd.Q_nil _ _ _ _ _ | exact Kd.S_nil _ _ _ _ _, by first | exact Kd.R_nil _ _ _ _ _ | exact Kd.N_nil _ _ _ _ _ | exact Kd.V_nil _ _ _ _ _ | exact Kd.Q_nil _ _ _ _ _ | exact Kd.S_nil _ _ _ _ _, by repeat (first | (with_reducible first | exact HB.out | apply sLA | apply sLN | apply sLD | refine sLS ?_ GE101.out | refine sLS ?_ GE102.out | refine sLS ?_ GE109.out) | exact HB.out)⟩

end Go.Proofs.Ytligcknlmbgbiaa.P

namespace Go.Proofs.Ytligcknlmbgbiaa.P
open Go.RowKit Go.Proofs.YtligcknlmbgbiaaW.PrintWords Go.Proofs.YtligcknlmbgbiaaW.PrintLast Go.Proofs.YtligcknlmbgbiaaW.PrintMore
attribute [local go_sem] max2_int min2_int max_two min_two max_three min_three max_four min_four
set_option linter.unusedVariables false
set_option linter.unusedSimpArgs false

/-! ### laws_szIntS: function 32 -/
def laws_szIntS.f (l0 : List Int) (a1 : Int) : Option (Int) := if (wrap64 (a1 - (l0.length : Int))) < 0 then (some (-1)) else (some (wrap64 (a1 - (l0.length : Int))))
set_option maxHeartbeats 8000000 in
set_option maxRecDepth 100000 in
theorem laws_szIntS.calls (A0 : Option Addr) (c0 : Nat) (l0 : List Int) (a1 : Int) (r : Int) (w : World) (hr0 : Kd.C (Kd.int .i64) w A0 l0.length l0) (hc0 : l0.length ≤ c0) (h : laws_szIntS.f l0 a1 = some r) :
  Calls Try.prog 32 #[.slice A0 l0.length c0, .int .i64 a1] w fun e w' => e = .returned (.int .i64 r) ∧ Drawn0 w w' := by
 have HR0 := sA hr0
 have HC0 := sA hc0
 clear hr0 hc0
 have H : (if (wrap64 (a1 - (l0.length : Int))) < 0 then (some (-1)) else (some (wrap64 (a1 - (l0.length : Int))))) = some r := h
 clear h
 by_cases c3 : (wrap64 (a1 - (l0.length : Int))) < 0
 ·rw [if_pos c3] at H
  have c3b0 : decide ((wrap64 (a1 - (l0.length : Int))) < 0) = true := decide_eq_true c3
  clear c3
  obtain rfl := Option.some.inj H
  go_enter Try.func32, Try.ntmps32
  go_wp2
  go_ret
  exact ⟨by first | rfl | (simp; done) | (simp [*]; done), by repeat (first | exact Drawn0.refl _ | apply Drawn0.step)⟩
 ·rw [if_neg c3] at H
  have c3b0 : decide ((wrap64 (a1 - (l0.length : Int))) < 0) = false := decide_eq_false c3
  clear c3
  obtain rfl := Option.some.inj H
  go_enter Try.func32, Try.ntmps32
  go_wp2
  go_ret
  exact ⟨by first | rfl | (simp; done) | (simp [*]; done), by repeat (first | exact Drawn0.refl _ | apply Drawn0.step)⟩

end Go.Proofs.Ytligcknlmbgbiaa.P

namespace Go.Proofs.Ytligcknlmbgbiaa.P
open Go.RowKit Go.Proofs.YtligcknlmbgbiaaW.PrintWords Go.Proofs.YtligcknlmbgbiaaW.PrintLast Go.Proofs.YtligcknlmbgbiaaW.PrintMore
attribute [local go_sem] max2_int min2_int max_two min_two max_three min_three max_four min_four
set_option linter.unusedVariables false
set_option linter.unusedSimpArgs false

/-! ### laws_szSender: function 8 -/
def laws_szSender.f (a0_0 : Int) (l0_1 : List (S62)) (l0_2 : List Int) (a1 : Int) : Option (Int) := (laws_szSpanS.f l0_1 a1).bind fun t102 => (if t102 < 0 then (some (-1)) else ((laws_szIntS.f l0_2 t102).bind fun t103 => (if t103 < 0 then (some (-1)) else (some t103))))
set_option maxHeartbeats 8000000 in
set_option maxRecDepth 100000 in
theorem laws_szSender.calls (a0_0 : Int) (A0_1 : Option Addr) (c0_1 : Nat) (l0_1 : List (S62)) (A0_2 : Option Addr) (c0_2 : Nat) (l0_2 : List Int) (a1 : Int) (r : Int) (w : World) (hr0_1 : Kd.C k62 w A0_1 l0_1.length l0_1) (hc0_1 : l0_1.length ≤ c0_1) (hr0_2 : Kd.C (Kd.int .i64) w A0_2 l0_2.length l0_2) (hc0_2 : l0_2.length ≤ c0_2) (h : laws_szSender.f a0_0 l0_1 l0_2 a1 = some r) :
  Calls Try.prog 8 #[.agg #[.int .i64 a0_0, .slice A0_1 l0_1.length c0_1, .slice A0_2 l0_2.length c0_2], .int .i64 a1] w fun e w' => e = .returned (.int .i64 r) ∧ Below w.heap.size w w' := by
 have hu25 := Try.underlying25
 have HR0_1 := sA hr0_1
 have HC0_1 := sA hc0_1
 clear hr0_1 hc0_1
 have HR0_2 := sA hr0_2
 have HC0_2 := sA hc0_2
 clear hr0_2 hc0_2
 have HB := sA (Below.refl w.heap.size w)
 have H : ((laws_szSpanS.f l0_1 a1).bind fun t102 => (if t102 < 0 then (some (-1)) else ((laws_szIntS.f l0_2 t102).bind fun t103 => (if t103 < 0 then (some (-1)) else (some t103))))) = some r := h
 clear h
 obtain ⟨t102, A3, H⟩ := sN H
 by_cases c4 : t102 < 0
 ·rw [if_pos c4] at H
  have c4b0 : decide (t102 < 0) = true := decide_eq_true c4
  clear c4
  obtain rfl := Option.some.inj H
  go_enter Try.func8, Try.ntmps8
  go_wp2_with (first | ((with_reducible refine gate_dst (N := 2) rfl ?_); refine box_event ?hg (N := 2) ?hd (cs := #[.int .i64 a0_0, .slice A0_1 l0_1.length c0_1, .slice A0_2 l0_2.length c0_2]) (t := 25) ?hr ?_; (case hd => rfl); (case hg => rfl); (case hr => first | (go_simp; done) | (go_simp; rfl)); intro gb101 hg w5 hbox hb; have BK101 := sA (hbox); have GW101 := sA ((by rw [hg]; exact (below_size sH) : w.heap.size ≤ gb101)); have GE101 := sA ((by rw [hg]; exact (below_size sH) : w.heap.size ≤ gb101)); replace HB := sA (below_step sH hb); clear hb hbox hg; obtain ⟨_, _, _, _, _, _⟩ := sD3 BK101) | ((with_reducible refine gate_callee (f := 20) rfl ?_); refine goesL_ (some 8) rfl rfl Try.func20 (by kernel_rfl) rfl #[.slice A0_1 l0_1.length c0_1, .int .i64 a1] rfl sG ?_; (with_reducible refine (laws_szSpanS.calls _ _ l0_1 a1 t102 _ ?side1 ?side2 A3.out).mono ?_); (case side1 => exact sK (Kd.C_below HR0_1.out HB.out)); (case side2 => exact HC0_1.out); rintro e w' ⟨rfl, ⟨nd, rfl⟩⟩; refine ⟨_, rfl, ?_⟩))
  go_ret
  exact ⟨by first | rfl | (simp [errW_none, errW_some] <;> rfl) | (simp [*, errW_none, errW_some] <;> rfl), by repeat (first | (with_reducible first | exact HB.out | apply sLA | apply sLN | apply sLD | refine sLS ?_ GE101.out) | exact HB.out)⟩
 ·rw [if_neg c4] at H
  have c4b0 : decide (t102 < 0) = false := decide_eq_false c4
  clear c4
  obtain ⟨t103, A7, H⟩ := sN H
  by_cases c8 : t103 < 0
  ·rw [if_pos c8] at H
   have c8b0 : decide (t103 < 0) = true := decide_eq_true c8
   clear c8
   obtain rfl := Option.some.inj H
   go_enter Try.func8, Try.ntmps8
   go_wp2_with (first | ((with_reducible refine gate_dst (N := 2) rfl ?_); refine box_event ?hg (N := 2) ?hd (cs := #[.int .i64 a0_0, .slice A0_1 l0_1.length c0_1, .slice A0_2 l0_2.length c0_2]) (t := 25) ?hr ?_; (case hd => rfl); (case hg => rfl); (case hr => first | (go_simp; done) | (go_simp; rfl)); intro gb101 hg w9 hbox hb; have BK101 := sA (hbox); have GW101 := sA ((by rw [hg]; exact (below_size sH) : w.heap.size ≤ gb101)); have GE101 := sA ((by rw [hg]; exact (below_size sH) : w.heap.size ≤ gb101)); replace HB := sA (below_step sH hb); clear hb hbox hg; obtain ⟨_, _, _, _, _, _⟩ := sD3 BK101) | ((with_reducible refine gate_callee (f := 20) rfl ?_); refine goesL_ (some 8) rfl rfl Try.func20 (by kernel_rfl) rfl #[.slice A0_1 l0_1.length c0_1, .int .i64 a1] rfl sG ?_; (with_reducible refine (laws_szSpanS.calls _ _ l0_1 a1 t102 _ ?side1 ?side2 A3.out).mono ?_); (case side1 => exact sK (Kd.C_below HR0_1.out HB.out)); (case side2 => exact HC0_1.out); rintro e w' ⟨rfl, ⟨nd, rfl⟩⟩; refine ⟨_, rfl, ?_⟩) | ((with_reducible refine gate_callee (f := 32) rfl ?_); refine goesL_ (some 14) rfl rfl Try.func32 (by kernel_rfl) rfl #[.slice A0_2 l0_2.length c0_2, .int .i64 t102] rfl sG ?_; (with_reducible refine (laws_szIntS.calls _ _ l0_2 t102 t103 _ ?side1 ?side2 A7.out).mono ?_); (case side1 => exact sK (Kd.C_below HR0_2.out sH)); (case side2 => exact HC0_2.out); rintro e w' ⟨rfl, ⟨nd, rfl⟩⟩; refine ⟨_, rfl, ?_⟩))
   go_ret
   exact ⟨by first | rfl | (simp [errW_none, errW_some] <;> rfl) | (simp [*, errW_none, errW_some] <;> rfl), by repeat (first | (with_reducible first | exact HB.out | apply sLA | apply sLN | apply sLD | refine sLS ?_ GE101.out) | exact HB.out)⟩
  ·rw [if_neg c8] at H
   have c8b0 : decide (t103 < 0) = false := decide_eq_false c8
   clear c8
   obtain rfl := Option.some.inj H
   go_enter Try.func8, Try.ntmps8
   go_wp2_with (first | ((with_reducible refine gate_dst (N := 2) rfl ?_); refine box_event ?hg (N := 2) ?hd (cs := #[.int .i64 a0_0, .slice A0_1 l0_1.length c0_1, .slice A0_2 l0_2.length c0_2]) (t := 25) ?hr ?_; (case hd => rfl); (case hg => rfl); (case hr => first | (go_simp; done) | (go_simp; rfl)); intro gb101 hg w11 hbox hb; have BK101 := sA (hbox); have GW101 := sA ((by rw [hg]; exact (below_size sH) : w.heap.size ≤ gb101)); have GE101 := sA ((by rw [hg]; exact (below_size sH) : w.heap.size ≤ gb101)); replace HB := sA (below_step sH hb); clear hb hbox hg; obtain ⟨_, _, _, _, _, _⟩ := sD3 BK101) | ((with_reducible refine gate_callee (f := 20) rfl ?_); refine goesL_ (some 8) rfl rfl Try.func20 (by kernel_rfl) rfl #[.slice A0_1 l0_1.length c0_1, .int .i64 a1] rfl sG ?_; (with_reducible refine (laws_szSpanS.calls _ _ l0_1 a1 t102 _ ?side1 ?side2 A3.out).mono ?_); (case side1 => exact sK (Kd.C_below HR0_1.out HB.out)); (case side2 => exact HC0_1.out); rintro e w' ⟨rfl, ⟨nd, rfl⟩⟩; refine ⟨_, rfl, ?_⟩) | ((with_reducible refine gate_callee (f := 32) rfl ?_); refine goesL_ (some 14) rfl rfl Try.func32 (by kernel_rfl) rfl #[.slice A0_2 l0_2.length c0_2, .int .i64 t102] rfl sG ?_; (with_reducible refine (laws_szIntS.calls _ _ l0_2 t102 t103 _ ?side1 ?side2 A7.out).mono ?_); (case side1 => exact sK (Kd.C_below HR0_2.out sH)); (case side2 => exact HC0_2.out); rintro e w' ⟨rfl, ⟨nd, rfl⟩⟩; refine ⟨_, rfl, ?_⟩))
   go_ret
   exact ⟨by first | rfl | (simp [errW_none, errW_some] <;> rfl) | (simp [*, errW_none, errW_some] <;> rfl), by repeat (first | (with_reducible first | exact HB.out | apply sLA | apply sLN | apply sLD | refine sLS ?_ GE101.out) | exact HB.out)⟩

end Go.Proofs.Ytligcknlmbgbiaa.P
