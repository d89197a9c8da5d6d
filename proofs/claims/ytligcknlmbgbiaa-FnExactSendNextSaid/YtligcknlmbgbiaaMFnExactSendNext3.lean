/- FnExactSendNext: for every input that can be read, the law returns true and its arguments read as before. Conditions: none beyond the row's own. (Part 4 of 5: contracts made by pw.py with the kit's print, contracts by hand, plain laws, the row.) -/
import Derived.Test.YtligcknlmbgbiaaMFnExactSendNext2

namespace Go.Proofs.Ytligcknlmbgbiaa.P
open Go.RowKit Go.Proofs.YtligcknlmbgbiaaW.PrintWords Go.Proofs.YtligcknlmbgbiaaW.PrintLast Go.Proofs.YtligcknlmbgbiaaW.PrintMore
attribute [local go_sem] max2_int min2_int max_two min_two max_three min_three max_four min_four
set_option linter.unusedVariables false
set_option linter.unusedSimpArgs false

/-! ### laws_FnExactSendNext: function 4 -/
mutual
def laws_FnExactSendNext.j0 : Nat → Int → Bool → Int → Bool → Bool → Int → List (S62) → List Int → Int → List (S59) → List Int → Int → List (S59) → List Int → Int → List (S59) → List Int → Option (Bool)
  | 0, _, _, _, _, _, _, _, _, _, _, _, _, _, _, _, _, _ => none
  | k + 1, x5, x6, x9, x10, x50, x102000, x102001, x102002, x120000, x120001, x120002, x128000, x128001, x128002, x138000, x138001, x138002 => if x50 = true then (some false) else ((laws_toSender.f k x102000 x102001 x102002).bind fun bt139 => ((laws_eqSender.f k x128000 x128001 x128002 bt139.1 bt139.2.1 bt139.2.2).bind fun t146 => (if t146 = true then ((laws_markSender.f k x128000 x128001 x128002 1).bind fun bt147 => (if bt147.1 < 0 then (laws_FnExactSendNext.j1 k x5 x6 true x102000 x102001 x102002 x120000 x120001 x120002 x138000 x138001 x138002) else ((laws_eqSender.f k x138000 x138001 x138002 x120000 x120001 x120002).bind fun t150 => (if t150 = true then (if x9 = x5 then (laws_FnExactSendNext.j1 k x5 x6 (x10 != x6) x102000 x102001 x102002 x120000 x120001 x120002 x138000 x138001 x138002) else (laws_FnExactSendNext.j1 k x5 x6 true x102000 x102001 x102002 x120000 x120001 x120002 x138000 x138001 x138002)) else (laws_FnExactSendNext.j1 k x5 x6 true x102000 x102001 x102002 x120000 x120001 x120002 x138000 x138001 x138002))))) else (some false))))
def laws_FnExactSendNext.j1 : Nat → Int → Bool → Bool → Int → List (S62) → List Int → Int → List (S59) → List Int → Int → List (S59) → List Int → Option (Bool)
  | 0, _, _, _, _, _, _, _, _, _, _, _, _ => none
  | k + 1, x5, x6, x76, x102000, x102001, x102002, x120000, x120001, x120002, x138000, x138001, x138002 => if x76 = true then (some false) else ((laws_markSender.f k x138000 x138001 x138002 1).bind fun bt151 => ((laws_heldSender.f k x138000 bt151.2.1 bt151.2.2 1).bind fun t154 => (if t154 < 0 then (some false) else (if t154 = bt151.1 then ((laws_toSender.f k x102000 x102001 x102002).bind fun bt155 => ((impl_SendNext.f k bt155.1 bt155.2.1 bt155.2.2).bind fun bt162 => ((laws_eqSender.f k bt162.1 bt162.2.1 bt162.2.2.1 x120000 x120001 x120002).bind fun t172 => (if t172 = true then (if bt162.2.2.2.1 = x5 then (laws_FnExactSendNext.j2 k bt151.1 (bt162.2.2.2.2 != x6) x138000 bt151.2.1 bt151.2.2) else (laws_FnExactSendNext.j2 k bt151.1 true x138000 bt151.2.1 bt151.2.2)) else (laws_FnExactSendNext.j2 k bt151.1 true x138000 bt151.2.1 bt151.2.2))))) else (some false)))))
def laws_FnExactSendNext.j2 : Nat → Int → Bool → Int → List (S59) → List Int → Option (Bool)
  | 0, _, _, _, _, _ => none
  | k + 1, x12, x108, x138000, x138001, x138002 => if x108 = true then (some false) else ((laws_heldSender.f k x138000 x138001 x138002 1).bind fun t173 => (if t173 < 0 then (some false) else (if t173 = x12 then (some true) else (some false))))
end
def laws_FnExactSendNext.f (k : Nat) (a0_0 : Int) (l0_1 : List (S62)) (l0_2 : List Int) : Option (Bool) := (laws_szSender.f a0_0 l0_1 l0_2 1048576).bind fun t102 => (if t102 < 0 then (some true) else ((laws_toSender.f k a0_0 l0_1 l0_2).bind fun bt103 => ((spec_SendNext.f k bt103.1 bt103.2.1 bt103.2.2).bind fun bt110 => ((laws_toSender.f k a0_0 l0_1 l0_2).bind fun bt120 => ((impl_SendNext.f k bt120.1 bt120.2.1 bt120.2.2).bind fun bt128 => ((laws_eqSender.f k bt128.1 bt128.2.1 bt128.2.2.1 bt110.1 bt110.2.1 bt110.2.2.1).bind fun t138 => (if t138 = true then (if bt128.2.2.2.1 = bt110.2.2.2.1 then (laws_FnExactSendNext.j0 k bt110.2.2.2.1 bt110.2.2.2.2 bt128.2.2.2.1 bt128.2.2.2.2 (bt128.2.2.2.2 != bt110.2.2.2.2) a0_0 l0_1 l0_2 bt110.1 bt110.2.1 bt110.2.2.1 bt120.1 bt120.2.1 bt120.2.2 bt128.1 bt128.2.1 bt128.2.2.1) else (laws_FnExactSendNext.j0 k bt110.2.2.2.1 bt110.2.2.2.2 bt128.2.2.2.1 bt128.2.2.2.2 true a0_0 l0_1 l0_2 bt110.1 bt110.2.1 bt110.2.2.1 bt120.1 bt120.2.1 bt120.2.2 bt128.1 bt128.2.1 bt128.2.2.1)) else (laws_FnExactSendNext.j0 k bt110.2.2.2.1 bt110.2.2.2.2 bt128.2.2.2.1 bt128.2.2.2.2 true a0_0 l0_1 l0_2 bt110.1 bt110.2.1 bt110.2.2.1 bt120.1 bt120.2.1 bt120.2.2 bt128.1 bt128.2.1 bt128.2.2.1))))))))
theorem laws_FnExactSendNext.mono_l : ∀ k, (∀ y0 y1 y2 y3 y4 y5 y6 y7 y8 y9 y10 y11 y12 y13 y14 y15 y16, LeO (laws_FnExactSendNext.j0 k y0 y1 y2 y3 y4 y5 y6 y7 y8 y9 y10 y11 y12 y13 y14 y15 y16) (laws_FnExactSendNext.j0 (k + 1) y0 y1 y2 y3 y4 y5 y6 y7 y8 y9 y10 y11 y12 y13 y14 y15 y16)) ∧ (∀ y0 y1 y2 y3 y4 y5 y6 y7 y8 y9 y10 y11, LeO (laws_FnExactSendNext.j1 k y0 y1 y2 y3 y4 y5 y6 y7 y8 y9 y10 y11) (laws_FnExactSendNext.j1 (k + 1) y0 y1 y2 y3 y4 y5 y6 y7 y8 y9 y10 y11)) ∧ (∀ y0 y1 y2 y3 y4, LeO (laws_FnExactSendNext.j2 k y0 y1 y2 y3 y4) (laws_FnExactSendNext.j2 (k + 1) y0 y1 y2 y3 y4))
  | 0 => ⟨fun _ _ _ _ _ _ _ _ _ _ _ _ _ _ _ _ _ r h => by simp [laws_FnExactSendNext.j0] at h, fun _ _ _ _ _ _ _ _ _ _ _ _ r h => by simp [laws_FnExactSendNext.j1] at h, fun _ _ _ _ _ r h => by simp [laws_FnExactSendNext.j2] at h⟩
  | k + 1 => by
    obtain ⟨ih0, ih1, ih2⟩ := laws_FnExactSendNext.mono_l k
    refine ⟨?_, ?_, ?_⟩
    · intro y0 y1 y2 y3 y4 y5 y6 y7 y8 y9 y10 y11 y12 y13 y14 y15 y16
      unfold laws_FnExactSendNext.j0
      repeat' first
      | (with_reducible exact ih0 _ _ _ _ _ _ _ _ _ _ _ _ _ _ _ _ _)
      | (with_reducible exact ih1 _ _ _ _ _ _ _ _ _ _ _ _)
      | (with_reducible exact ih2 _ _ _ _ _)
      | (with_reducible exact impl_SendNext.mono _ _ _ _)
      | (with_reducible exact laws_eqSender.mono _ _ _ _ _ _ _)
      | (with_reducible exact laws_heldSender.mono _ _ _ _ _)
      | (with_reducible exact laws_markSender.mono _ _ _ _ _)
      | (with_reducible exact laws_toSender.mono _ _ _ _)
      | (with_reducible exact spec_SendNext.mono _ _ _ _)
      | (with_reducible exact LeO.refl _)
      | (with_reducible exact LeO.none _)
      | (with_reducible refine LeO.ite ?_ ?_)
      | (with_reducible refine LeO.bind ?_ (fun _ => ?_))
      | exact ih0 _ _ _ _ _ _ _ _ _ _ _ _ _ _ _ _ _
      | exact ih1 _ _ _ _ _ _ _ _ _ _ _ _
      | exact ih2 _ _ _ _ _
      | exact impl_SendNext.mono _ _ _ _
      | exact laws_eqSender.mono _ _ _ _ _ _ _
      | exact laws_heldSender.mono _ _ _ _ _
      | exact laws_markSender.mono _ _ _ _ _
      | exact laws_toSender.mono _ _ _ _
      | exact spec_SendNext.mono _ _ _ _
      | exact LeO.none _
      | refine LeO.ite ?_ ?_
      | refine LeO.bind ?_ (fun _ => ?_)
    · intro y0 y1 y2 y3 y4 y5 y6 y7 y8 y9 y10 y11
      unfold laws_FnExactSendNext.j1
      repeat' first
      | (with_reducible exact ih0 _ _ _ _ _ _ _ _ _ _ _ _ _ _ _ _ _)
      | (with_reducible exact ih1 _ _ _ _ _ _ _ _ _ _ _ _)
      | (with_reducible exact ih2 _ _ _ _ _)
      | (with_reducible exact impl_SendNext.mono _ _ _ _)
      | (with_reducible exact laws_eqSender.mono _ _ _ _ _ _ _)
      | (with_reducible exact laws_heldSender.mono _ _ _ _ _)
      | (with_reducible exact laws_markSender.mono _ _ _ _ _)
      | (with_reducible exact laws_toSender.mono _ _ _ _)
      | (with_reducible exact spec_SendNext.mono _ _ _ _)
      | (with_reducible exact LeO.refl _)
      | (with_reducible exact LeO.none _)
      | (with_reducible refine LeO.ite ?_ ?_)
      | (with_reducible refine LeO.bind ?_ (fun _ => ?_))
      | exact ih0 _ _ _ _ _ _ _ _ _ _ _ _ _ _ _ _ _
      | exact ih1 _ _ _ _ _ _ _ _ _ _ _ _
      | exact ih2 _ _ _ _ _
      | exact impl_SendNext.mono _ _ _ _
      | exact laws_eqSender.mono _ _ _ _ _ _ _
      | exact laws_heldSender.mono _ _ _ _ _
      | exact laws_markSender.mono _ _ _ _ _
      | exact laws_toSender.mono _ _ _ _
      | exact spec_SendNext.mono _ _ _ _
      | exact LeO.none _
      | refine LeO.ite ?_ ?_
      | refine LeO.bind ?_ (fun _ => ?_)
    · intro y0 y1 y2 y3 y4
      unfold laws_FnExactSendNext.j2
      repeat' first
      | (with_reducible exact ih0 _ _ _ _ _ _ _ _ _ _ _ _ _ _ _ _ _)
      | (with_reducible exact ih1 _ _ _ _ _ _ _ _ _ _ _ _)
      | (with_reducible exact ih2 _ _ _ _ _)
      | (with_reducible exact impl_SendNext.mono _ _ _ _)
      | (with_reducible exact laws_eqSender.mono _ _ _ _ _ _ _)
      | (with_reducible exact laws_heldSender.mono _ _ _ _ _)
      | (with_reducible exact laws_markSender.mono _ _ _ _ _)
      | (with_reducible exact laws_toSender.mono _ _ _ _)
      | (with_reducible exact spec_SendNext.mono _ _ _ _)
      | (with_reducible exact LeO.refl _)
      | (with_reducible exact LeO.none _)
      | (with_reducible refine LeO.ite ?_ ?_)
      | (with_reducible refine LeO.bind ?_ (fun _ => ?_))
      | exact ih0 _ _ _ _ _ _ _ _ _ _ _ _ _ _ _ _ _
      | exact ih1 _ _ _ _ _ _ _ _ _ _ _ _
      | exact ih2 _ _ _ _ _
      | exact impl_SendNext.mono _ _ _ _
      | exact laws_eqSender.mono _ _ _ _ _ _ _
      | exact laws_heldSender.mono _ _ _ _ _
      | exact laws_markSender.mono _ _ _ _ _
      | exact laws_toSender.mono _ _ _ _
      | exact spec_SendNext.mono _ _ _ _
      | exact LeO.none _
      | refine LeO.ite ?_ ?_
      | refine LeO.bind ?_ (fun _ => ?_)
theorem laws_FnExactSendNext.mono : ∀ a0 a1 a2 k, LeO (laws_FnExactSendNext.f k a0 a1 a2) (laws_FnExactSendNext.f (k + 1) a0 a1 a2) := by
  intro a0 a1 a2 k
  obtain ⟨ih0, ih1, ih2⟩ := laws_FnExactSendNext.mono_l k
  unfold laws_FnExactSendNext.f
  repeat' first
      | (with_reducible exact ih0 _ _ _ _ _ _ _ _ _ _ _ _ _ _ _ _ _)
      | (with_reducible exact ih1 _ _ _ _ _ _ _ _ _ _ _ _)
      | (with_reducible exact ih2 _ _ _ _ _)
      | (with_reducible exact impl_SendNext.mono _ _ _ _)
      | (with_reducible exact laws_eqSender.mono _ _ _ _ _ _ _)
      | (with_reducible exact laws_heldSender.mono _ _ _ _ _)
      | (with_reducible exact laws_markSender.mono _ _ _ _ _)
      | (with_reducible exact laws_toSender.mono _ _ _ _)
      | (with_reducible exact spec_SendNext.mono _ _ _ _)
      | (with_reducible exact LeO.refl _)
      | (with_reducible exact LeO.none _)
      | (with_reducible refine LeO.ite ?_ ?_)
      | (with_reducible refine LeO.bind ?_ (fun _ => ?_))
      | exact ih0 _ _ _ _ _ _ _ _ _ _ _ _ _ _ _ _ _
      | exact ih1 _ _ _ _ _ _ _ _ _ _ _ _
      | exact ih2 _ _ _ _ _
      | exact impl_SendNext.mono _ _ _ _
      | exact laws_eqSender.mono _ _ _ _ _ _ _
      | exact laws_heldSender.mono _ _ _ _ _
      | exact laws_markSender.mono _ _ _ _ _
      | exact laws_toSender.mono _ _ _ _
      | exact spec_SendNext.mono _ _ _ _
      | exact LeO.none _
      | refine LeO.ite ?_ ?_
      | refine LeO.bind ?_ (fun _ => ?_)
set_option maxHeartbeats 8000000 in
set_option maxRecDepth 100000 in
theorem laws_FnExactSendNext.calls (k : Nat) (a0_0 : Int) (A0_1 : Option Addr) (c0_1 : Nat) (l0_1 : List (S62)) (A0_2 : Option Addr) (c0_2 : Nat) (l0_2 : List Int) (r : Bool) (w : World) (hr0_1 : Kd.C k62 w A0_1 l0_1.length l0_1) (hc0_1 : l0_1.length ≤ c0_1) (hr0_2 : Kd.C (Kd.int .i64) w A0_2 l0_2.length l0_2) (hc0_2 : l0_2.length ≤ c0_2) (h : laws_FnExactSendNext.f k a0_0 l0_1 l0_2 = some r) :
  Calls Try.prog 4 #[.agg #[.int .i64 a0_0, .slice A0_1 l0_1.length c0_1, .slice A0_2 l0_2.length c0_2]] w fun e w' => e = .returned (.bool r) ∧ Below w.heap.size w w' := by
 have hu25 := Try.underlying25
 have hu31 := Try.underlying31
 have HR0_1 := sA hr0_1
 have HC0_1 := sA hc0_1
 clear hr0_1 hc0_1
 have HR0_2 := sA hr0_2
 have HC0_2 := sA hc0_2
 clear hr0_2 hc0_2
 have HB := sA (Below.refl w.heap.size w)
 have H : ((laws_szSender.f a0_0 l0_1 l0_2 1048576).bind fun t102 => (if t102 < 0 then (some true) else ((laws_toSender.f k a0_0 l0_1 l0_2).bind fun bt103 => ((spec_SendNext.f k bt103.1 bt103.2.1 bt103.2.2).bind fun bt110 => ((laws_toSender.f k a0_0 l0_1 l0_2).bind fun bt120 => ((impl_SendNext.f k bt120.1 bt120.2.1 bt120.2.2).bind fun bt128 => ((laws_eqSender.f k bt128.1 bt128.2.1 bt128.2.2.1 bt110.1 bt110.2.1 bt110.2.2.1).bind fun t138 => (if t138 = true then (if bt128.2.2.2.1 = bt110.2.2.2.1 then (laws_FnExactSendNext.j0 k bt110.2.2.2.1 bt110.2.2.2.2 bt128.2.2.2.1 bt128.2.2.2.2 (bt128.2.2.2.2 != bt110.2.2.2.2) a0_0 l0_1 l0_2 bt110.1 bt110.2.1 bt110.2.2.1 bt120.1 bt120.2.1 bt120.2.2 bt128.1 bt128.2.1 bt128.2.2.1) else (laws_FnExactSendNext.j0 k bt110.2.2.2.1 bt110.2.2.2.2 bt128.2.2.2.1 bt128.2.2.2.2 true a0_0 l0_1 l0_2 bt110.1 bt110.2.1 bt110.2.2.1 bt120.1 bt120.2.1 bt120.2.2 bt128.1 bt128.2.1 bt128.2.2.1)) else (laws_FnExactSendNext.j0 k bt110.2.2.2.1 bt110.2.2.2.2 bt128.2.2.2.1 bt128.2.2.2.2 true a0_0 l0_1 l0_2 bt110.1 bt110.2.1 bt110.2.2.1 bt120.1 bt120.2.1 bt120.2.2 bt128.1 bt128.2.1 bt128.2.2.1))))))))) = some r := h
 clear h
 replace H := Option.bind_eq_some_iff.mp H
 obtain ⟨t102, A20, H⟩ := H
 replace H : (if t102 < 0 then (some true) else ((laws_toSender.f k a0_0 l0_1 l0_2).bind fun bt103 => ((spec_SendNext.f k bt103.1 bt103.2.1 bt103.2.2).bind fun bt110 => ((laws_toSender.f k a0_0 l0_1 l0_2).bind fun bt120 => ((impl_SendNext.f k bt120.1 bt120.2.1 bt120.2.2).bind fun bt128 => ((laws_eqSender.f k bt128.1 bt128.2.1 bt128.2.2.1 bt110.1 bt110.2.1 bt110.2.2.1).bind fun t138 => (if t138 = true then (if bt128.2.2.2.1 = bt110.2.2.2.1 then (laws_FnExactSendNext.j0 k bt110.2.2.2.1 bt110.2.2.2.2 bt128.2.2.2.1 bt128.2.2.2.2 (bt128.2.2.2.2 != bt110.2.2.2.2) a0_0 l0_1 l0_2 bt110.1 bt110.2.1 bt110.2.2.1 bt120.1 bt120.2.1 bt120.2.2 bt128.1 bt128.2.1 bt128.2.2.1) else (laws_FnExactSendNext.j0 k bt110.2.2.2.1 bt110.2.2.2.2 bt128.2.2.2.1 bt128.2.2.2.2 true a0_0 l0_1 l0_2 bt110.1 bt110.2.1 bt110.2.2.1 bt120.1 bt120.2.1 bt120.2.2 bt128.1 bt128.2.1 bt128.2.2.1)) else (laws_FnExactSendNext.j0 k bt110.2.2.2.1 bt110.2.2.2.2 bt128.2.2.2.1 bt128.2.2.2.2 true a0_0 l0_1 l0_2 bt110.1 bt110.2.1 bt110.2.2.1 bt120.1 bt120.2.1 bt120.2.2 bt128.1 bt128.2.1 bt128.2.2.1)))))))) = some r := H
 have A2 := sA A20
 clear A20
 by_cases c3 : t102 < 0
 ·rw [if_pos c3] at H
  have c3b0 : decide (t102 < 0) = true := decide_eq_true c3
  clear c3
  obtain rfl := Option.some.inj H
  go_enter Try.func4, Try.ntmps4
  go_wp2_with (first | ((with_reducible refine gate_dst (N := 1) rfl ?_); refine box_event ?hg (N := 1) ?hd (cs := #[.int .i64 a0_0, .slice A0_1 l0_1.length c0_1, .slice A0_2 l0_2.length c0_2]) (t := 25) ?hr ?_; (case hd => rfl); (case hg => rfl); (case hr => first | (go_simp; done) | (go_simp; rfl)); intro gb101 hg w4 hbox hb; have n0_ := sA (below_step (by repeat (first | (with_reducible first | exact HB.out | apply below_alloc | apply pw_below_drewN | apply below_drew1) | exact HB.out)) hb); have n1_ := sA (hbox); have n2_ := sA ((by rw [hg]; exact (below_size (by repeat (first | (with_reducible first | exact HB.out | apply below_alloc | apply pw_below_drewN | apply below_drew1) | exact HB.out))) : w.heap.size ≤ gb101)); have n3_ := sA ((by rw [hg]; exact (below_size (by repeat (first | (with_reducible first | exact HB.out | apply below_alloc | apply pw_below_drewN | apply below_drew1) | exact HB.out))) : w.heap.size ≤ gb101)); clear HB; have HB := n0_; have BK101 := n1_; have GW101 := n2_; have GE101 := n3_; clear n0_ n1_ n2_ n3_; clear hb hbox hg; have hcz5_0 : w4.cell? ⟨gb101, 0, none⟩ = some (.int .i64 a0_0) := (blk_cell BK101.out 0).trans rfl; have hcz5_1 : w4.cell? ⟨gb101, 1, none⟩ = some (.slice A0_1 l0_1.length c0_1) := (blk_cell BK101.out 1).trans rfl; have hcz5_2 : w4.cell? ⟨gb101, 2, none⟩ = some (.slice A0_2 l0_2.length c0_2) := (blk_cell BK101.out 2).trans rfl; have hfz5_0 := blk_frozen BK101.out 0; have hfz5_1 := blk_frozen BK101.out 1; have hfz5_2 := blk_frozen BK101.out 2) | ((with_reducible refine gate_callee (f := 8) rfl ?_); refine goesL_ (some 19) rfl rfl Try.func8 (by kernel_rfl) rfl #[.agg #[.int .i64 a0_0, .slice A0_1 l0_1.length c0_1, .slice A0_2 l0_2.length c0_2], .int .i64 1048576] rfl (by (try simp only [List.map_toArray, List.map_cons, List.map_nil]); first | done | rfl | (simp only [List.length_drop, List.length_take]; rfl)) ?_; (with_reducible refine (laws_szSender.calls a0_0 _ _ l0_1 _ _ l0_2 1048576 t102 _ ?side1 ?side2 ?side3 ?side4 A2.out).mono ?_); (case side1 => repeat (first | exact (Kd.C_below HR0_1.out HB.out) | (with_reducible refine Kd.C_alloc ?_ _) | (with_reducible refine Kd.C_drewN ?_ _) | (with_reducible refine Kd.C_drew ?_))); (case side2 => exact HC0_1.out); (case side3 => repeat (first | exact (Kd.C_below HR0_2.out HB.out) | (with_reducible refine Kd.C_alloc ?_ _) | (with_reducible refine Kd.C_drewN ?_ _) | (with_reducible refine Kd.C_drew ?_))); (case side4 => exact HC0_2.out); rintro e w6 ⟨rfl, hb⟩; refine ⟨_, rfl, ?_⟩; have n0_ := sA (blk_below (g := gb101) (o := .cells #[.int .i64 a0_0, .slice A0_1 l0_1.length c0_1, .slice A0_2 l0_2.length c0_2] 25 (0, 0)) (sB BK101.out) hb); have n1_ := sA (below_step (by repeat (first | (with_reducible first | exact HB.out | apply below_alloc | apply pw_below_drewN | apply below_drew1 | refine below_set ?_ GE101.out) | exact HB.out)) hb); clear BK101; clear HB; have BK101 := n0_; have HB := n1_; clear n0_ n1_; (try clear hb); (try clear hb2); (try clear hk); (try clear hi)))
  go_ret
  exact ⟨by first | rfl | (simp [errW_none, errW_some] <;> rfl) | (simp [*, errW_none, errW_some] <;> rfl), by repeat (first | (with_reducible first | exact HB.out | apply below_alloc | apply pw_below_drewN | apply below_drew1 | refine below_set ?_ GE101.out) | exact HB.out)⟩
 ·rw [if_neg c3] at H
  have c3b0 : decide (t102 < 0) = false := decide_eq_false c3
  clear c3
  replace H := Option.bind_eq_some_iff.mp H
  obtain ⟨⟨t103, t104, t107⟩, A70, H⟩ := H
  replace H : ((spec_SendNext.f k t103 t104 t107).bind fun bt110 => ((laws_toSender.f k a0_0 l0_1 l0_2).bind fun bt120 => ((impl_SendNext.f k bt120.1 bt120.2.1 bt120.2.2).bind fun bt128 => ((laws_eqSender.f k bt128.1 bt128.2.1 bt128.2.2.1 bt110.1 bt110.2.1 bt110.2.2.1).bind fun t138 => (if t138 = true then (if bt128.2.2.2.1 = bt110.2.2.2.1 then (laws_FnExactSendNext.j0 k bt110.2.2.2.1 bt110.2.2.2.2 bt128.2.2.2.1 bt128.2.2.2.2 (bt128.2.2.2.2 != bt110.2.2.2.2) a0_0 l0_1 l0_2 bt110.1 bt110.2.1 bt110.2.2.1 bt120.1 bt120.2.1 bt120.2.2 bt128.1 bt128.2.1 bt128.2.2.1) else (laws_FnExactSendNext.j0 k bt110.2.2.2.1 bt110.2.2.2.2 bt128.2.2.2.1 bt128.2.2.2.2 true a0_0 l0_1 l0_2 bt110.1 bt110.2.1 bt110.2.2.1 bt120.1 bt120.2.1 bt120.2.2 bt128.1 bt128.2.1 bt128.2.2.1)) else (laws_FnExactSendNext.j0 k bt110.2.2.2.1 bt110.2.2.2.2 bt128.2.2.2.1 bt128.2.2.2.2 true a0_0 l0_1 l0_2 bt110.1 bt110.2.1 bt110.2.2.1 bt120.1 bt120.2.1 bt120.2.2 bt128.1 bt128.2.1 bt128.2.2.1)))))) = some r := H
  have A7 := sA A70
  clear A70
  replace H := Option.bind_eq_some_iff.mp H
  obtain ⟨⟨t110, t111, t114, t117, t118⟩, A80, H⟩ := H
  replace H : ((laws_toSender.f k a0_0 l0_1 l0_2).bind fun bt120 => ((impl_SendNext.f k bt120.1 bt120.2.1 bt120.2.2).bind fun bt128 => ((laws_eqSender.f k bt128.1 bt128.2.1 bt128.2.2.1 t110 t111 t114).bind fun t138 => (if t138 = true then (if bt128.2.2.2.1 = t117 then (laws_FnExactSendNext.j0 k t117 t118 bt128.2.2.2.1 bt128.2.2.2.2 (bt128.2.2.2.2 != t118) a0_0 l0_1 l0_2 t110 t111 t114 bt120.1 bt120.2.1 bt120.2.2 bt128.1 bt128.2.1 bt128.2.2.1) else (laws_FnExactSendNext.j0 k t117 t118 bt128.2.2.2.1 bt128.2.2.2.2 true a0_0 l0_1 l0_2 t110 t111 t114 bt120.1 bt120.2.1 bt120.2.2 bt128.1 bt128.2.1 bt128.2.2.1)) else (laws_FnExactSendNext.j0 k t117 t118 bt128.2.2.2.1 bt128.2.2.2.2 true a0_0 l0_1 l0_2 t110 t111 t114 bt120.1 bt120.2.1 bt120.2.2 bt128.1 bt128.2.1 bt128.2.2.1))))) = some r := H
  have A8 := sA A80
  clear A80
  replace H := Option.bind_eq_some_iff.mp H
  obtain ⟨⟨t120, t121, t124⟩, A90, H⟩ := H
  replace H : ((impl_SendNext.f k t120 t121 t124).bind fun bt128 => ((laws_eqSender.f k bt128.1 bt128.2.1 bt128.2.2.1 t110 t111 t114).bind fun t138 => (if t138 = true then (if bt128.2.2.2.1 = t117 then (laws_FnExactSendNext.j0 k t117 t118 bt128.2.2.2.1 bt128.2.2.2.2 (bt128.2.2.2.2 != t118) a0_0 l0_1 l0_2 t110 t111 t114 t120 t121 t124 bt128.1 bt128.2.1 bt128.2.2.1) else (laws_FnExactSendNext.j0 k t117 t118 bt128.2.2.2.1 bt128.2.2.2.2 true a0_0 l0_1 l0_2 t110 t111 t114 t120 t121 t124 bt128.1 bt128.2.1 bt128.2.2.1)) else (laws_FnExactSendNext.j0 k t117 t118 bt128.2.2.2.1 bt128.2.2.2.2 true a0_0 l0_1 l0_2 t110 t111 t114 t120 t121 t124 bt128.1 bt128.2.1 bt128.2.2.1)))) = some r := H
  have A9 := sA A90
  clear A90
  replace H := Option.bind_eq_some_iff.mp H
  obtain ⟨⟨t128, t129, t132, t135, t136⟩, A100, H⟩ := H
  replace H : ((laws_eqSender.f k t128 t129 t132 t110 t111 t114).bind fun t138 => (if t138 = true then (if t135 = t117 then (laws_FnExactSendNext.j0 k t117 t118 t135 t136 (t136 != t118) a0_0 l0_1 l0_2 t110 t111 t114 t120 t121 t124 t128 t129 t132) else (laws_FnExactSendNext.j0 k t117 t118 t135 t136 true a0_0 l0_1 l0_2 t110 t111 t114 t120 t121 t124 t128 t129 t132)) else (laws_FnExactSendNext.j0 k t117 t118 t135 t136 true a0_0 l0_1 l0_2 t110 t111 t114 t120 t121 t124 t128 t129 t132))) = some r := H
  have A10 := sA A100
  clear A100
  have HC11 := sA H
  clear H
  go_enter Try.func4, Try.ntmps4
  go_upto_region 8 with (first | ((with_reducible refine gate_dst (N := 1) rfl ?_); refine box_event ?hg (N := 1) ?hd (cs := #[.int .i64 a0_0, .slice A0_1 l0_1.length c0_1, .slice A0_2 l0_2.length c0_2]) (t := 25) ?hr ?_; (case hd => rfl); (case hg => rfl); (case hr => first | (go_simp; done) | (go_simp; rfl)); intro gb101 hg w12 hbox hb; have n0_ := sA (below_step (by repeat (first | (with_reducible first | exact HB.out | apply below_alloc | apply pw_below_drewN | apply below_drew1) | exact HB.out)) hb); have n1_ := sA (hbox); have n2_ := sA ((by rw [hg]; exact (below_size (by repeat (first | (with_reducible first | exact HB.out | apply below_alloc | apply pw_below_drewN | apply below_drew1) | exact HB.out))) : w.heap.size ≤ gb101)); have n3_ := sA ((by rw [hg]; exact (below_size (by repeat (first | (with_reducible first | exact HB.out | apply below_alloc | apply pw_below_drewN | apply below_drew1) | exact HB.out))) : w.heap.size ≤ gb101)); clear HB; have HB := n0_; have BK101 := n1_; have GW101 := n2_; have GE101 := n3_; clear n0_ n1_ n2_ n3_; clear hb hbox hg; have hcz13_0 : w12.cell? ⟨gb101, 0, none⟩ = some (.int .i64 a0_0) := (blk_cell BK101.out 0).trans rfl; have hcz13_1 : w12.cell? ⟨gb101, 1, none⟩ = some (.slice A0_1 l0_1.length c0_1) := (blk_cell BK101.out 1).trans rfl; have hcz13_2 : w12.cell? ⟨gb101, 2, none⟩ = some (.slice A0_2 l0_2.length c0_2) := (blk_cell BK101.out 2).trans rfl; have hfz13_0 := blk_frozen BK101.out 0; have hfz13_1 := blk_frozen BK101.out 1; have hfz13_2 := blk_frozen BK101.out 2) | ((with_reducible refine gate_callee (f := 8) rfl ?_); refine goesL_ (some 19) rfl rfl Try.func8 (by kernel_rfl) rfl #[.agg #[.int .i64 a0_0, .slice A0_1 l0_1.length c0_1, .slice A0_2 l0_2.length c0_2], .int .i64 1048576] rfl (by (try simp only [List.map_toArray, List.map_cons, List.map_nil]); first | done | rfl | (simp only [List.length_drop, List.length_take]; rfl)) ?_; (with_reducible refine (laws_szSender.calls a0_0 _ _ l0_1 _ _ l0_2 1048576 t102 _ ?side1 ?side2 ?side3 ?side4 A2.out).mono ?_); (case side1 => repeat (first | exact (Kd.C_below HR0_1.out HB.out) | (with_reducible refine Kd.C_alloc ?_ _) | (with_reducible refine Kd.C_drewN ?_ _) | (with_reducible refine Kd.C_drew ?_))); (case side2 => exact HC0_1.out); (case side3 => repeat (first | exact (Kd.C_below HR0_2.out HB.out) | (with_reducible refine Kd.C_alloc ?_ _) | (with_reducible refine Kd.C_drewN ?_ _) | (with_reducible refine Kd.C_drew ?_))); (case side4 => exact HC0_2.out); rintro e w14 ⟨rfl, hb⟩; refine ⟨_, rfl, ?_⟩; have n0_ := sA (blk_below (g := gb101) (o := .cells #[.int .i64 a0_0, .slice A0_1 l0_1.length c0_1, .slice A0_2 l0_2.length c0_2] 25 (0, 0)) (sB BK101.out) hb); have n1_ := sA (below_step (by repeat (first | (with_reducible first | exact HB.out | apply below_alloc | apply pw_below_drewN | apply below_drew1 | refine below_set ?_ GE101.out) | exact HB.out)) hb); clear BK101; clear HB; have BK101 := n0_; have HB := n1_; clear n0_ n1_; (try clear hb); (try clear hb2); (try clear hk); (try clear hi); have hcz15_0 : w14.cell? ⟨gb101, 0, none⟩ = some (.int .i64 a0_0) := (blk_cell BK101.out 0).trans rfl; have hcz15_1 : w14.cell? ⟨gb101, 1, none⟩ = some (.slice A0_1 l0_1.length c0_1) := (blk_cell BK101.out 1).trans rfl; have hcz15_2 : w14.cell? ⟨gb101, 2, none⟩ = some (.slice A0_2 l0_2.length c0_2) := (blk_cell BK101.out 2).trans rfl; have hfz15_0 := blk_frozen BK101.out 0; have hfz15_1 := blk_frozen BK101.out 1; have hfz15_2 := blk_frozen BK101.out 2) | ((with_reducible refine gate_callee (f := 10) rfl ?_); refine goesL_ (some 24) rfl rfl Try.func10 (by kernel_rfl) rfl #[.agg #[.int .i64 a0_0, .slice A0_1 l0_1.length c0_1, .slice A0_2 l0_2.length c0_2]] rfl (by (try simp only [List.map_toArray, List.map_cons, List.map_nil]); first | done | rfl | (simp only [List.length_drop, List.length_take]; rfl)) ?_; (with_reducible refine (laws_toSender.calls k a0_0 _ _ l0_1 _ _ l0_2 t103 t104 t107 _ ?side1 ?side2 ?side3 ?side4 A7.out).mono ?_); (case side1 => repeat (first | exact (Kd.C_below HR0_1.out HB.out) | (with_reducible refine Kd.C_alloc ?_ _) | (with_reducible refine Kd.C_drewN ?_ _) | (with_reducible refine Kd.C_drew ?_))); (case side2 => exact HC0_1.out); (case side3 => repeat (first | exact (Kd.C_below HR0_2.out HB.out) | (with_reducible refine Kd.C_alloc ?_ _) | (with_reducible refine Kd.C_drewN ?_ _) | (with_reducible refine Kd.C_drew ?_))); (case side4 => exact HC0_2.out); rintro e w16 ⟨v105, v108, rfl, ho0, ho1, hb⟩; refine ⟨_, rfl, ?_⟩; have n0_ := sA (Kd.R_lower ho0 (below_size (by repeat (first | (with_reducible first | exact HB.out | apply below_alloc | apply pw_below_drewN | apply below_drew1 | refine below_set ?_ GE101.out) | exact HB.out)))); have n1_ := sA (Kd.R_lower ho1 (below_size (by repeat (first | (with_reducible first | exact HB.out | apply below_alloc | apply pw_below_drewN | apply below_drew1 | refine below_set ?_ GE101.out) | exact HB.out)))); have n2_ := sA (blk_below (g := gb101) (o := .cells #[.int .i64 a0_0, .slice A0_1 l0_1.length c0_1, .slice A0_2 l0_2.length c0_2] 25 (0, 0)) (sB BK101.out) hb); have n3_ := sA (below_step (by repeat (first | (with_reducible first | exact HB.out | apply below_alloc | apply pw_below_drewN | apply below_drew1 | refine below_set ?_ GE101.out) | exact HB.out)) hb); clear BK101; clear HB; have HO106 := n0_; have HO109 := n1_; have BK101 := n2_; have HB := n3_; clear n0_ n1_ n2_ n3_; (try clear hb); (try clear hb2); (try clear hk); (try clear hi); (try clear ho0); (try clear ho1); obtain ⟨Ao17, co17, eo17⟩ := Kd.R_slice HO106.out; subst eo17; obtain ⟨Ao18, co18, eo18⟩ := Kd.R_slice HO109.out; subst eo18) | ((with_reducible refine gate_callee (f := 17) rfl ?_); refine goesL_ (some 25) rfl rfl Try.func17 (by kernel_rfl) rfl #[.agg #[.int .i64 t103, .slice Ao17 t104.length co17, .slice Ao18 t107.length co18]] rfl (by (try simp only [List.map_toArray, List.map_cons, List.map_nil]); first | done | rfl | (simp only [List.length_drop, List.length_take]; rfl)) ?_; (with_reducible refine (spec_SendNext.calls k t103 _ _ t104 _ _ t107 t110 t111 t114 t117 t118 _ ?side1 ?side2 ?side3 ?side4 A8.out).mono ?_); (case side1 => repeat (first | exact (Kd.R_reads' HO106.out).2.2 | (with_reducible refine Kd.C_alloc ?_ _) | (with_reducible refine Kd.C_drewN ?_ _) | (with_reducible refine Kd.C_drew ?_))); (case side2 => exact (Kd.R_reads' HO106.out).2.1); (case side3 => repeat (first | exact (Kd.R_reads' HO109.out).2.2 | (with_reducible refine Kd.C_alloc ?_ _) | (with_reducible refine Kd.C_drewN ?_ _) | (with_reducible refine Kd.C_drew ?_))); (case side4 => exact (Kd.R_reads' HO109.out).2.1); rintro e w19 ⟨v112, v115, rfl, ho0, ho1, hb⟩; refine ⟨_, rfl, ?_⟩; have n0_ := sA (Kd.R_elder' (sR HO106.out) (Kd.R_base ho0) hb); have n1_ := sA (Kd.R_elder' (sR HO109.out) (Kd.R_base ho1) hb); have n2_ := sA (Kd.R_lower (Kd.R_new' ho0 (Kd.R_lt (sR HO106.out))) (below_size (by repeat (first | (with_reducible first | exact HB.out | apply below_alloc | apply pw_below_drewN | apply below_drew1 | refine below_set ?_ GE101.out) | exact HB.out)))); have n3_ := sA (Kd.R_lower (Kd.R_new' ho1 (Kd.R_lt (sR HO109.out))) (below_size (by repeat (first | (with_reducible first | exact HB.out | apply below_alloc | apply pw_below_drewN | apply below_drew1 | refine below_set ?_ GE101.out) | exact HB.out)))); have n4_ := sA (blk_below (g := gb101) (o := .cells #[.int .i64 a0_0, .slice A0_1 l0_1.length c0_1, .slice A0_2 l0_2.length c0_2] 25 (0, 0)) (sB BK101.out) hb); have n5_ := sA (below_step (by repeat (first | (with_reducible first | exact HB.out | apply below_alloc | apply pw_below_drewN | apply below_drew1 | refine below_set ?_ GE101.out) | exact HB.out)) hb); clear HO106; clear HO109; clear BK101; clear HB; have HO106 := n0_; have HO109 := n1_; have HO113 := n2_; have HO116 := n3_; have BK101 := n4_; have HB := n5_; clear n0_ n1_ n2_ n3_ n4_ n5_; (try clear hb); (try clear hb2); (try clear hk); (try clear hi); (try clear ho0); (try clear ho1)) | ((with_reducible refine gate_dst (N := 4) rfl ?_); refine box_event ?hg (N := 4) ?hd (cs := #[.int .i64 0, .slice none 0 0, .slice none 0 0]) (t := 31) ?hr ?_; (case hd => rfl); (case hg => rfl); (case hr => first | (go_simp; done) | (go_simp; rfl)); intro gb119 hg w20 hbox hb; have n0_ := sA (Kd.R_below (sR HO106.out) hb); have n1_ := sA (Kd.R_below (sR HO109.out) hb); have n2_ := sA (Kd.R_below (sR HO113.out) hb); have n3_ := sA (Kd.R_below (sR HO116.out) hb); have n4_ := sA (blk_below (g := gb101) (o := .cells #[.int .i64 a0_0, .slice A0_1 l0_1.length c0_1, .slice A0_2 l0_2.length c0_2] 25 (0, 0)) (sB BK101.out) hb); have n5_ := sA (below_step (by repeat (first | (with_reducible first | exact HB.out | apply below_alloc | apply pw_below_drewN | apply below_drew1 | refine below_set ?_ GE101.out) | exact HB.out)) hb); have n6_ := sA (hbox); have n7_ := sA ((by rw [hg]; exact (below_size (by repeat (first | (with_reducible first | exact HB.out | apply below_alloc | apply pw_below_drewN | apply below_drew1 | refine below_set ?_ GE101.out) | exact HB.out))) : w.heap.size ≤ gb119)); have n8_ := sA ((by rw [hg]; exact (below_size (by repeat (first | (with_reducible first | exact HB.out | apply below_alloc | apply pw_below_drewN | apply below_drew1 | refine below_set ?_ GE101.out) | exact HB.out))) : w.heap.size ≤ gb119)); have n9_ := sA ((by rw [hg]; exact Nat.ne_of_lt (blk_lt (g := gb101) (o := .cells #[.int .i64 a0_0, .slice A0_1 l0_1.length c0_1, .slice A0_2 l0_2.length c0_2] 25 (0, 0)) (sB BK101.out)) : gb101 ≠ gb119)); have n10_ := sA ((by rw [hg]; exact Nat.ne_of_gt (blk_lt (g := gb101) (o := .cells #[.int .i64 a0_0, .slice A0_1 l0_1.length c0_1, .slice A0_2 l0_2.length c0_2] 25 (0, 0)) (sB BK101.out)) : gb119 ≠ gb101)); clear HO106; clear HO109; clear HO113; clear HO116; clear BK101; clear HB; have HO106 := n0_; have HO109 := n1_; have HO113 := n2_; have HO116 := n3_; have BK101 := n4_; have HB := n5_; have BK119 := n6_; have GW119 := n7_; have GE119 := n8_; have NB101_119 := n9_; have NB119_101 := n10_; clear n0_ n1_ n2_ n3_ n4_ n5_ n6_ n7_ n8_ n9_ n10_; clear hb hbox hg; have hnb21 := NB119_101.out; have hnc21 := NB101_119.out; have hcz22_0 : w20.cell? ⟨gb119, 0, none⟩ = some (.int .i64 0) := (blk_cell BK119.out 0).trans rfl; have hcz22_1 : w20.cell? ⟨gb119, 1, none⟩ = some (.slice none 0 0) := (blk_cell BK119.out 1).trans rfl; have hcz22_2 : w20.cell? ⟨gb119, 2, none⟩ = some (.slice none 0 0) := (blk_cell BK119.out 2).trans rfl; have hfz22_0 := blk_frozen BK119.out 0; have hfz22_1 := blk_frozen BK119.out 1; have hfz22_2 := blk_frozen BK119.out 2; obtain ⟨Ao23, co23, eo23⟩ := Kd.R_slice HO113.out; subst eo23; obtain ⟨Ao24, co24, eo24⟩ := Kd.R_slice HO116.out; subst eo24; have hcz25_0 : w20.cell? ⟨gb101, 0, none⟩ = some (.int .i64 a0_0) := (blk_cell BK101.out 0).trans rfl; have hcz25_1 : w20.cell? ⟨gb101, 1, none⟩ = some (.slice A0_1 l0_1.length c0_1) := (blk_cell BK101.out 1).trans rfl; have hcz25_2 : w20.cell? ⟨gb101, 2, none⟩ = some (.slice A0_2 l0_2.length c0_2) := (blk_cell BK101.out 2).trans rfl; have hfz25_0 := blk_frozen BK101.out 0; have hfz25_1 := blk_frozen BK101.out 1; have hfz25_2 := blk_frozen BK101.out 2) | ((with_reducible refine gate_callee (f := 10) rfl ?_); refine goesL_ (some 30) rfl rfl Try.func10 (by kernel_rfl) rfl #[.agg #[.int .i64 a0_0, .slice A0_1 l0_1.length c0_1, .slice A0_2 l0_2.length c0_2]] rfl (by (try simp only [List.map_toArray, List.map_cons, List.map_nil]); first | done | rfl | (simp only [List.length_drop, List.length_take]; rfl)) ?_; (with_reducible refine (laws_toSender.calls k a0_0 _ _ l0_1 _ _ l0_2 t120 t121 t124 _ ?side1 ?side2 ?side3 ?side4 A9.out).mono ?_); (case side1 => exact Kd.C_below HR0_1.out (by repeat (first | (with_reducible first | exact HB.out | apply below_alloc | apply pw_below_drewN | apply below_drew1 | refine below_set ?_ (Aside0.out (by assumption))) | exact HB.out))); (case side2 => exact HC0_1.out); (case side3 => exact Kd.C_below HR0_2.out (by repeat (first | (with_reducible first | exact HB.out | apply below_alloc | apply pw_below_drewN | apply below_drew1 | refine below_set ?_ (Aside0.out (by assumption))) | exact HB.out))); (case side4 => exact HC0_2.out); rintro e w26 ⟨v122, v125, rfl, ho0, ho1, hb⟩; refine ⟨_, rfl, ?_⟩; have n0_ := sA (Kd.R_elder' (sR (Kd.R_mono (Kd.R_far (p := ⟨gb119, 2, none⟩) (Kd.R_far (p := ⟨gb119, 1, none⟩) (Kd.R_far (p := ⟨gb119, 0, none⟩) (Kd.R_types HO106.out BK119.out (by decide)) (fun _ hk => hk.2) (.int .i64 t110)) (fun _ hk => hk.2) (.slice Ao23 t111.length co23)) (fun _ hk => hk.2) (.slice Ao24 t114.length co24)) (fun _ h_ => h_.1))) (Kd.R_base ho0) hb); have n1_ := sA (Kd.R_elder' (sR (Kd.R_mono (Kd.R_far (p := ⟨gb119, 2, none⟩) (Kd.R_far (p := ⟨gb119, 1, none⟩) (Kd.R_far (p := ⟨gb119, 0, none⟩) (Kd.R_types HO109.out BK119.out (by decide)) (fun _ hk => hk.2) (.int .i64 t110)) (fun _ hk => hk.2) (.slice Ao23 t111.length co23)) (fun _ hk => hk.2) (.slice Ao24 t114.length co24)) (fun _ h_ => h_.1))) (Kd.R_base ho1) hb); have n2_ := sA (Kd.R_elder' (sR (Kd.R_mono (Kd.R_far (p := ⟨gb119, 2, none⟩) (Kd.R_far (p := ⟨gb119, 1, none⟩) (Kd.R_far (p := ⟨gb119, 0, none⟩) (Kd.R_types HO113.out BK119.out (by decide)) (fun _ hk => hk.2) (.int .i64 t110)) (fun _ hk => hk.2) (.slice Ao23 t111.length co23)) (fun _ hk => hk.2) (.slice Ao24 t114.length co24)) (fun _ h_ => h_.1))) (Kd.R_base ho0) hb); have n3_ := sA (Kd.R_elder' (sR (Kd.R_mono (Kd.R_far (p := ⟨gb119, 2, none⟩) (Kd.R_far (p := ⟨gb119, 1, none⟩) (Kd.R_far (p := ⟨gb119, 0, none⟩) (Kd.R_types HO116.out BK119.out (by decide)) (fun _ hk => hk.2) (.int .i64 t110)) (fun _ hk => hk.2) (.slice Ao23 t111.length co23)) (fun _ hk => hk.2) (.slice Ao24 t114.length co24)) (fun _ h_ => h_.1))) (Kd.R_base ho1) hb); have n4_ := sA (Kd.R_lower (Kd.R_new' (Kd.R_new' ho0 (Kd.R_lt (sR (Kd.R_mono (Kd.R_far (p := ⟨gb119, 2, none⟩) (Kd.R_far (p := ⟨gb119, 1, none⟩) (Kd.R_far (p := ⟨gb119, 0, none⟩) (Kd.R_types HO106.out BK119.out (by decide)) (fun _ hk => hk.2) (.int .i64 t110)) (fun _ hk => hk.2) (.slice Ao23 t111.length co23)) (fun _ hk => hk.2) (.slice Ao24 t114.length co24)) (fun _ h_ => h_.1))))) (Kd.R_lt (sR (Kd.R_mono (Kd.R_far (p := ⟨gb119, 2, none⟩) (Kd.R_far (p := ⟨gb119, 1, none⟩) (Kd.R_far (p := ⟨gb119, 0, none⟩) (Kd.R_types HO113.out BK119.out (by decide)) (fun _ hk => hk.2) (.int .i64 t110)) (fun _ hk => hk.2) (.slice Ao23 t111.length co23)) (fun _ hk => hk.2) (.slice Ao24 t114.length co24)) (fun _ h_ => h_.1))))) (below_size (by repeat (first | (with_reducible first | exact HB.out | apply below_alloc | apply pw_below_drewN | apply below_drew1 | refine below_set ?_ (Aside0.out (by assumption))) | exact HB.out)))); have n5_ := sA (Kd.R_lower (Kd.R_new' (Kd.R_new' ho1 (Kd.R_lt (sR (Kd.R_mono (Kd.R_far (p := ⟨gb119, 2, none⟩) (Kd.R_far (p := ⟨gb119, 1, none⟩) (Kd.R_far (p := ⟨gb119, 0, none⟩) (Kd.R_types HO109.out BK119.out (by decide)) (fun _ hk => hk.2) (.int .i64 t110)) (fun _ hk => hk.2) (.slice Ao23 t111.length co23)) (fun _ hk => hk.2) (.slice Ao24 t114.length co24)) (fun _ h_ => h_.1))))) (Kd.R_lt (sR (Kd.R_mono (Kd.R_far (p := ⟨gb119, 2, none⟩) (Kd.R_far (p := ⟨gb119, 1, none⟩) (Kd.R_far (p := ⟨gb119, 0, none⟩) (Kd.R_types HO116.out BK119.out (by decide)) (fun _ hk => hk.2) (.int .i64 t110)) (fun _ hk => hk.2) (.slice Ao23 t111.length co23)) (fun _ hk => hk.2) (.slice Ao24 t114.length co24)) (fun _ h_ => h_.1))))) (below_size (by repeat (first | (with_reducible first | exact HB.out | apply below_alloc | apply pw_below_drewN | apply below_drew1 | refine below_set ?_ (Aside0.out (by assumption))) | exact HB.out)))); have n6_ := sA (blk_below (g := gb101) (o := .cells #[.int .i64 a0_0, .slice A0_1 l0_1.length c0_1, .slice A0_2 l0_2.length c0_2] 25 (0, 0)) (by (with_reducible repeat first | apply blk_drewN | apply blk_drew | apply blk_alloc); refine blk_far ?_ NB101_119.out _; (with_reducible repeat first | apply blk_drewN | apply blk_drew | apply blk_alloc); refine blk_far ?_ NB101_119.out _; (with_reducible repeat first | apply blk_drewN | apply blk_drew | apply blk_alloc); refine blk_far ?_ NB101_119.out _; (with_reducible repeat first | apply blk_drewN | apply blk_drew | apply blk_alloc); exact BK101.out) hb); have n7_ := sA (blk_below (g := gb119) (o := .cells #[.int .i64 t110, .slice Ao23 t111.length co23, .slice Ao24 t114.length co24] 31 (0, 0)) (by (with_reducible repeat first | apply blk_drewN | apply blk_drew | apply blk_alloc); refine blk_put (cs := #[.int .i64 t110, .slice Ao23 t111.length co23, .slice none 0 0]) ?_ 2 _ rfl; (with_reducible repeat first | apply blk_drewN | apply blk_drew | apply blk_alloc); refine blk_put (cs := #[.int .i64 t110, .slice none 0 0, .slice none 0 0]) ?_ 1 _ rfl; (with_reducible repeat first | apply blk_drewN | apply blk_drew | apply blk_alloc); refine blk_put (cs := #[.int .i64 0, .slice none 0 0, .slice none 0 0]) ?_ 0 _ rfl; (with_reducible repeat first | apply blk_drewN | apply blk_drew | apply blk_alloc); exact BK119.out) hb); have n8_ := sA (below_step (by repeat (first | (with_reducible first | exact HB.out | apply below_alloc | apply pw_below_drewN | apply below_drew1 | refine below_set ?_ (Aside0.out (by assumption))) | exact HB.out)) hb); clear HO106; clear HO109; clear HO113; clear HO116; clear BK101; clear BK119; clear HB; have HO106 := n0_; have HO109 := n1_; have HO113 := n2_; have HO116 := n3_; have HO123 := n4_; have HO126 := n5_; have BK101 := n6_; have BK119 := n7_; have HB := n8_; clear n0_ n1_ n2_ n3_ n4_ n5_ n6_ n7_ n8_; (try clear hb); (try clear hb2); (try clear hk); (try clear hi); (try clear ho0); (try clear ho1)) | ((with_reducible refine gate_dst (N := 7) rfl ?_); refine box_event ?hg (N := 7) ?hd (cs := #[.int .i64 0, .slice none 0 0, .slice none 0 0]) (t := 31) ?hr ?_; (case hd => rfl); (case hg => rfl); (case hr => first | (go_simp; done) | (go_simp; rfl)); intro gb127 hg w27 hbox hb; have n0_ := sA (Kd.R_below (sR HO106.out) hb); have n1_ := sA (Kd.R_below (sR HO109.out) hb); have n2_ := sA (Kd.R_below (sR HO113.out) hb); have n3_ := sA (Kd.R_below (sR HO116.out) hb); have n4_ := sA (Kd.R_below (sR HO123.out) hb); have n5_ := sA (Kd.R_below (sR HO126.out) hb); have n6_ := sA (blk_below (g := gb101) (o := .cells #[.int .i64 a0_0, .slice A0_1 l0_1.length c0_1, .slice A0_2 l0_2.length c0_2] 25 (0, 0)) (sB BK101.out) hb); have n7_ := sA (blk_below (g := gb119) (o := .cells #[.int .i64 t110, .slice Ao23 t111.length co23, .slice Ao24 t114.length co24] 31 (0, 0)) (sB BK119.out) hb); have n8_ := sA (below_step (by repeat (first | (with_reducible first | exact HB.out | apply below_alloc | apply pw_below_drewN | apply below_drew1 | refine below_set ?_ (Aside0.out (by assumption))) | exact HB.out)) hb); have n9_ := sA (hbox); have n10_ := sA ((by rw [hg]; exact (below_size (by repeat (first | (with_reducible first | exact HB.out | apply below_alloc | apply pw_below_drewN | apply below_drew1 | refine below_set ?_ (Aside0.out (by assumption))) | exact HB.out))) : w.heap.size ≤ gb127)); have n11_ := sA ((by rw [hg]; exact (below_size (by repeat (first | (with_reducible first | exact HB.out | apply below_alloc | apply pw_below_drewN | apply below_drew1 | refine below_set ?_ (Aside0.out (by assumption))) | exact HB.out))) : w.heap.size ≤ gb127)); have n12_ := sA ((by rw [hg]; exact Nat.ne_of_lt (blk_lt (g := gb101) (o := .cells #[.int .i64 a0_0, .slice A0_1 l0_1.length c0_1, .slice A0_2 l0_2.length c0_2] 25 (0, 0)) (sB BK101.out)) : gb101 ≠ gb127)); have n13_ := sA ((by rw [hg]; exact Nat.ne_of_gt (blk_lt (g := gb101) (o := .cells #[.int .i64 a0_0, .slice A0_1 l0_1.length c0_1, .slice A0_2 l0_2.length c0_2] 25 (0, 0)) (sB BK101.out)) : gb127 ≠ gb101)); have n14_ := sA ((by rw [hg]; exact Nat.ne_of_lt (blk_lt (g := gb119) (o := .cells #[.int .i64 t110, .slice Ao23 t111.length co23, .slice Ao24 t114.length co24] 31 (0, 0)) (sB BK119.out)) : gb119 ≠ gb127)); have n15_ := sA ((by rw [hg]; exact Nat.ne_of_gt (blk_lt (g := gb119) (o := .cells #[.int .i64 t110, .slice Ao23 t111.length co23, .slice Ao24 t114.length co24] 31 (0, 0)) (sB BK119.out)) : gb127 ≠ gb119)); clear HO106; clear HO109; clear HO113; clear HO116; clear HO123; clear HO126; clear BK101; clear BK119; clear HB; have HO106 := n0_; have HO109 := n1_; have HO113 := n2_; have HO116 := n3_; have HO123 := n4_; have HO126 := n5_; have BK101 := n6_; have BK119 := n7_; have HB := n8_; have BK127 := n9_; have GW127 := n10_; have GE127 := n11_; have NB101_127 := n12_; have NB127_101 := n13_; have NB119_127 := n14_; have NB127_119 := n15_; clear n0_ n1_ n2_ n3_ n4_ n5_ n6_ n7_ n8_ n9_ n10_ n11_ n12_ n13_ n14_ n15_; clear hb hbox hg; have hnb28 := NB127_101.out; have hnc28 := NB101_127.out; have hnb29 := NB127_119.out; have hnc29 := NB119_127.out; have hcz30_0 : w27.cell? ⟨gb127, 0, none⟩ = some (.int .i64 0) := (blk_cell BK127.out 0).trans rfl; have hcz30_1 : w27.cell? ⟨gb127, 1, none⟩ = some (.slice none 0 0) := (blk_cell BK127.out 1).trans rfl; have hcz30_2 : w27.cell? ⟨gb127, 2, none⟩ = some (.slice none 0 0) := (blk_cell BK127.out 2).trans rfl; have hfz30_0 := blk_frozen BK127.out 0; have hfz30_1 := blk_frozen BK127.out 1; have hfz30_2 := blk_frozen BK127.out 2; obtain ⟨Ao31, co31, eo31⟩ := Kd.R_slice HO123.out; subst eo31; obtain ⟨Ao32, co32, eo32⟩ := Kd.R_slice HO126.out; subst eo32) | ((with_reducible refine gate_callee (f := 18) rfl ?_); refine goesL_ (some 33) rfl rfl Try.func18 (by kernel_rfl) rfl #[.agg #[.int .i64 t120, .slice Ao31 t121.length co31, .slice Ao32 t124.length co32]] rfl (by (try simp only [List.map_toArray, List.map_cons, List.map_nil]); first | done | rfl | (simp only [List.length_drop, List.length_take]; rfl)) ?_; (with_reducible refine (impl_SendNext.calls k t120 _ _ t121 _ _ t124 t128 t129 t132 t135 t136 _ ?side1 ?side2 ?side3 ?side4 A10.out).mono ?_); (case side1 => refine (Kd.R_reads' (e := 59) (base := w.heap.size) (ok := fun k_ => ((True ∧ some k_ ≠ (.slice Ao17 t104.length co17 : Value).ownBlock) ∧ some k_ ≠ (.slice Ao23 t111.length co23 : Value).ownBlock)) (n := t121.length) (c := co31) ?_).2.2; exact (sR (Kd.R_mono (Kd.R_far (p := ⟨gb127, 2, none⟩) (Kd.R_far (p := ⟨gb127, 1, none⟩) (Kd.R_far (p := ⟨gb127, 0, none⟩) (Kd.R_types HO123.out BK127.out (by decide)) (fun _ hk => hk.2) (.int .i64 t120)) (fun _ hk => hk.2) (.slice Ao31 t121.length co31)) (fun _ hk => hk.2) (.slice Ao32 t124.length co32)) (fun _ h_ => h_.1)))); (case side2 => exact (Kd.R_reads' HO123.out).2.1); (case side3 => refine (Kd.R_reads' (e := 3) (base := w.heap.size) (ok := fun k_ => ((True ∧ some k_ ≠ (.slice Ao18 t107.length co18 : Value).ownBlock) ∧ some k_ ≠ (.slice Ao24 t114.length co24 : Value).ownBlock)) (n := t124.length) (c := co32) ?_).2.2; exact (sR (Kd.R_mono (Kd.R_far (p := ⟨gb127, 2, none⟩) (Kd.R_far (p := ⟨gb127, 1, none⟩) (Kd.R_far (p := ⟨gb127, 0, none⟩) (Kd.R_types HO126.out BK127.out (by decide)) (fun _ hk => hk.2) (.int .i64 t120)) (fun _ hk => hk.2) (.slice Ao31 t121.length co31)) (fun _ hk => hk.2) (.slice Ao32 t124.length co32)) (fun _ h_ => h_.1)))); (case side4 => exact (Kd.R_reads' HO126.out).2.1); rintro e w33 ⟨v130, v133, rfl, ho0, ho1, hb⟩; refine ⟨_, rfl, ?_⟩; have n0_ := sA (Kd.R_elder' (sR (Kd.R_mono (Kd.R_far (p := ⟨gb127, 2, none⟩) (Kd.R_far (p := ⟨gb127, 1, none⟩) (Kd.R_far (p := ⟨gb127, 0, none⟩) (Kd.R_types HO106.out BK127.out (by decide)) (fun _ hk => hk.2) (.int .i64 t120)) (fun _ hk => hk.2) (.slice Ao31 t121.length co31)) (fun _ hk => hk.2) (.slice Ao32 t124.length co32)) (fun _ h_ => h_.1))) (Kd.R_base ho0) hb); have n1_ := sA (Kd.R_elder' (sR (Kd.R_mono (Kd.R_far (p := ⟨gb127, 2, none⟩) (Kd.R_far (p := ⟨gb127, 1, none⟩) (Kd.R_far (p := ⟨gb127, 0, none⟩) (Kd.R_types HO109.out BK127.out (by decide)) (fun _ hk => hk.2) (.int .i64 t120)) (fun _ hk => hk.2) (.slice Ao31 t121.length co31)) (fun _ hk => hk.2) (.slice Ao32 t124.length co32)) (fun _ h_ => h_.1))) (Kd.R_base ho1) hb); have n2_ := sA (Kd.R_elder' (sR (Kd.R_mono (Kd.R_far (p := ⟨gb127, 2, none⟩) (Kd.R_far (p := ⟨gb127, 1, none⟩) (Kd.R_far (p := ⟨gb127, 0, none⟩) (Kd.R_types HO113.out BK127.out (by decide)) (fun _ hk => hk.2) (.int .i64 t120)) (fun _ hk => hk.2) (.slice Ao31 t121.length co31)) (fun _ hk => hk.2) (.slice Ao32 t124.length co32)) (fun _ h_ => h_.1))) (Kd.R_base ho0) hb); have n3_ := sA (Kd.R_elder' (sR (Kd.R_mono (Kd.R_far (p := ⟨gb127, 2, none⟩) (Kd.R_far (p := ⟨gb127, 1, none⟩) (Kd.R_far (p := ⟨gb127, 0, none⟩) (Kd.R_types HO116.out BK127.out (by decide)) (fun _ hk => hk.2) (.int .i64 t120)) (fun _ hk => hk.2) (.slice Ao31 t121.length co31)) (fun _ hk => hk.2) (.slice Ao32 t124.length co32)) (fun _ h_ => h_.1))) (Kd.R_base ho1) hb); have n4_ := sA (Kd.R_elder' (sR (Kd.R_mono (Kd.R_far (p := ⟨gb127, 2, none⟩) (Kd.R_far (p := ⟨gb127, 1, none⟩) (Kd.R_far (p := ⟨gb127, 0, none⟩) (Kd.R_types HO123.out BK127.out (by decide)) (fun _ hk => hk.2) (.int .i64 t120)) (fun _ hk => hk.2) (.slice Ao31 t121.length co31)) (fun _ hk => hk.2) (.slice Ao32 t124.length co32)) (fun _ h_ => h_.1))) (Kd.R_base ho0) hb); have n5_ := sA (Kd.R_elder' (sR (Kd.R_mono (Kd.R_far (p := ⟨gb127, 2, none⟩) (Kd.R_far (p := ⟨gb127, 1, none⟩) (Kd.R_far (p := ⟨gb127, 0, none⟩) (Kd.R_types HO126.out BK127.out (by decide)) (fun _ hk => hk.2) (.int .i64 t120)) (fun _ hk => hk.2) (.slice Ao31 t121.length co31)) (fun _ hk => hk.2) (.slice Ao32 t124.length co32)) (fun _ h_ => h_.1))) (Kd.R_base ho1) hb); have n6_ := sA (Kd.R_lower (Kd.R_new' (Kd.R_new' (Kd.R_new' ho0 (Kd.R_lt (sR (Kd.R_mono (Kd.R_far (p := ⟨gb127, 2, none⟩) (Kd.R_far (p := ⟨gb127, 1, none⟩) (Kd.R_far (p := ⟨gb127, 0, none⟩) (Kd.R_types HO106.out BK127.out (by decide)) (fun _ hk => hk.2) (.int .i64 t120)) (fun _ hk => hk.2) (.slice Ao31 t121.length co31)) (fun _ hk => hk.2) (.slice Ao32 t124.length co32)) (fun _ h_ => h_.1))))) (Kd.R_lt (sR (Kd.R_mono (Kd.R_far (p := ⟨gb127, 2, none⟩) (Kd.R_far (p := ⟨gb127, 1, none⟩) (Kd.R_far (p := ⟨gb127, 0, none⟩) (Kd.R_types HO113.out BK127.out (by decide)) (fun _ hk => hk.2) (.int .i64 t120)) (fun _ hk => hk.2) (.slice Ao31 t121.length co31)) (fun _ hk => hk.2) (.slice Ao32 t124.length co32)) (fun _ h_ => h_.1))))) (Kd.R_lt (sR (Kd.R_mono (Kd.R_far (p := ⟨gb127, 2, none⟩) (Kd.R_far (p := ⟨gb127, 1, none⟩) (Kd.R_far (p := ⟨gb127, 0, none⟩) (Kd.R_types HO123.out BK127.out (by decide)) (fun _ hk => hk.2) (.int .i64 t120)) (fun _ hk => hk.2) (.slice Ao31 t121.length co31)) (fun _ hk => hk.2) (.slice Ao32 t124.length co32)) (fun _ h_ => h_.1))))) (below_size (by repeat (first | (with_reducible first | exact HB.out | apply below_alloc | apply pw_below_drewN | apply below_drew1 | refine below_set ?_ (Aside0.out (by assumption))) | exact HB.out)))); have n7_ := sA (Kd.R_lower (Kd.R_new' (Kd.R_new' (Kd.R_new' ho1 (Kd.R_lt (sR (Kd.R_mono (Kd.R_far (p := ⟨gb127, 2, none⟩) (Kd.R_far (p := ⟨gb127, 1, none⟩) (Kd.R_far (p := ⟨gb127, 0, none⟩) (Kd.R_types HO109.out BK127.out (by decide)) (fun _ hk => hk.2) (.int .i64 t120)) (fun _ hk => hk.2) (.slice Ao31 t121.length co31)) (fun _ hk => hk.2) (.slice Ao32 t124.length co32)) (fun _ h_ => h_.1))))) (Kd.R_lt (sR (Kd.R_mono (Kd.R_far (p := ⟨gb127, 2, none⟩) (Kd.R_far (p := ⟨gb127, 1, none⟩) (Kd.R_far (p := ⟨gb127, 0, none⟩) (Kd.R_types HO116.out BK127.out (by decide)) (fun _ hk => hk.2) (.int .i64 t120)) (fun _ hk => hk.2) (.slice Ao31 t121.length co31)) (fun _ hk => hk.2) (.slice Ao32 t124.length co32)) (fun _ h_ => h_.1))))) (Kd.R_lt (sR (Kd.R_mono (Kd.R_far (p := ⟨gb127, 2, none⟩) (Kd.R_far (p := ⟨gb127, 1, none⟩) (Kd.R_far (p := ⟨gb127, 0, none⟩) (Kd.R_types HO126.out BK127.out (by decide)) (fun _ hk => hk.2) (.int .i64 t120)) (fun _ hk => hk.2) (.slice Ao31 t121.length co31)) (fun _ hk => hk.2) (.slice Ao32 t124.length co32)) (fun _ h_ => h_.1))))) (below_size (by repeat (first | (with_reducible first | exact HB.out | apply below_alloc | apply pw_below_drewN | apply below_drew1 | refine below_set ?_ (Aside0.out (by assumption))) | exact HB.out)))); have n8_ := sA (blk_below (g := gb101) (o := .cells #[.int .i64 a0_0, .slice A0_1 l0_1.length c0_1, .slice A0_2 l0_2.length c0_2] 25 (0, 0)) (by (with_reducible repeat first | apply blk_drewN | apply blk_drew | apply blk_alloc); refine blk_far ?_ NB101_127.out _; (with_reducible repeat first | apply blk_drewN | apply blk_drew | apply blk_alloc); refine blk_far ?_ NB101_127.out _; (with_reducible repeat first | apply blk_drewN | apply blk_drew | apply blk_alloc); refine blk_far ?_ NB101_127.out _; (with_reducible repeat first | apply blk_drewN | apply blk_drew | apply blk_alloc); exact BK101.out) hb); have n9_ := sA (blk_below (g := gb119) (o := .cells #[.int .i64 t110, .slice Ao23 t111.length co23, .slice Ao24 t114.length co24] 31 (0, 0)) (by (with_reducible repeat first | apply blk_drewN | apply blk_drew | apply blk_alloc); refine blk_far ?_ NB119_127.out _; (with_reducible repeat first | apply blk_drewN | apply blk_drew | apply blk_alloc); refine blk_far ?_ NB119_127.out _; (with_reducible repeat first | apply blk_drewN | apply blk_drew | apply blk_alloc); refine blk_far ?_ NB119_127.out _; (with_reducible repeat first | apply blk_drewN | apply blk_drew | apply blk_alloc); exact BK119.out) hb); have n10_ := sA (blk_below (g := gb127) (o := .cells #[.int .i64 t120, .slice Ao31 t121.length co31, .slice Ao32 t124.length co32] 31 (0, 0)) (by (with_reducible repeat first | apply blk_drewN | apply blk_drew | apply blk_alloc); refine blk_put (cs := #[.int .i64 t120, .slice Ao31 t121.length co31, .slice none 0 0]) ?_ 2 _ rfl; (with_reducible repeat first | apply blk_drewN | apply blk_drew | apply blk_alloc); refine blk_put (cs := #[.int .i64 t120, .slice none 0 0, .slice none 0 0]) ?_ 1 _ rfl; (with_reducible repeat first | apply blk_drewN | apply blk_drew | apply blk_alloc); refine blk_put (cs := #[.int .i64 0, .slice none 0 0, .slice none 0 0]) ?_ 0 _ rfl; (with_reducible repeat first | apply blk_drewN | apply blk_drew | apply blk_alloc); exact BK127.out) hb); have n11_ := sA (below_step (by repeat (first | (with_reducible first | exact HB.out | apply below_alloc | apply pw_below_drewN | apply below_drew1 | refine below_set ?_ (Aside0.out (by assumption))) | exact HB.out)) hb); clear HO106; clear HO109; clear HO113; clear HO116; clear HO123; clear HO126; clear BK101; clear BK119; clear BK127; clear HB; have HO106 := n0_; have HO109 := n1_; have HO113 := n2_; have HO116 := n3_; have HO123 := n4_; have HO126 := n5_; have HO131 := n6_; have HO134 := n7_; have BK101 := n8_; have BK119 := n9_; have BK127 := n10_; have HB := n11_; clear n0_ n1_ n2_ n3_ n4_ n5_ n6_ n7_ n8_ n9_ n10_ n11_; (try clear hb); (try clear hb2); (try clear hk); (try clear hi); (try clear ho0); (try clear ho1)) | ((with_reducible refine gate_dst (N := 8) rfl ?_); refine box_event ?hg (N := 8) ?hd (cs := #[.int .i64 0, .slice none 0 0, .slice none 0 0]) (t := 31) ?hr ?_; (case hd => rfl); (case hg => rfl); (case hr => first | (go_simp; done) | (go_simp; rfl)); intro gb137 hg w34 hbox hb; have n0_ := sA (Kd.R_below (sR HO106.out) hb); have n1_ := sA (Kd.R_below (sR HO109.out) hb); have n2_ := sA (Kd.R_below (sR HO113.out) hb); have n3_ := sA (Kd.R_below (sR HO116.out) hb); have n4_ := sA (Kd.R_below (sR HO123.out) hb); have n5_ := sA (Kd.R_below (sR HO126.out) hb); have n6_ := sA (Kd.R_below (sR HO131.out) hb); have n7_ := sA (Kd.R_below (sR HO134.out) hb); have n8_ := sA (blk_below (g := gb101) (o := .cells #[.int .i64 a0_0, .slice A0_1 l0_1.length c0_1, .slice A0_2 l0_2.length c0_2] 25 (0, 0)) (sB BK101.out) hb); have n9_ := sA (blk_below (g := gb119) (o := .cells #[.int .i64 t110, .slice Ao23 t111.length co23, .slice Ao24 t114.length co24] 31 (0, 0)) (sB BK119.out) hb); have n10_ := sA (blk_below (g := gb127) (o := .cells #[.int .i64 t120, .slice Ao31 t121.length co31, .slice Ao32 t124.length co32] 31 (0, 0)) (sB BK127.out) hb); have n11_ := sA (below_step (by repeat (first | (with_reducible first | exact HB.out | apply below_alloc | apply pw_below_drewN | apply below_drew1 | refine below_set ?_ (Aside0.out (by assumption))) | exact HB.out)) hb); have n12_ := sA (hbox); have n13_ := sA ((by rw [hg]; exact (below_size (by repeat (first | (with_reducible first | exact HB.out | apply below_alloc | apply pw_below_drewN | apply below_drew1 | refine below_set ?_ (Aside0.out (by assumption))) | exact HB.out))) : w.heap.size ≤ gb137)); have n14_ := sA ((by rw [hg]; exact (below_size (by repeat (first | (with_reducible first | exact HB.out | apply below_alloc | apply pw_below_drewN | apply below_drew1 | refine below_set ?_ (Aside0.out (by assumption))) | exact HB.out))) : w.heap.size ≤ gb137)); have n15_ := sA ((by rw [hg]; exact Nat.ne_of_lt (blk_lt (g := gb101) (o := .cells #[.int .i64 a0_0, .slice A0_1 l0_1.length c0_1, .slice A0_2 l0_2.length c0_2] 25 (0, 0)) (sB BK101.out)) : gb101 ≠ gb137)); have n16_ := sA ((by rw [hg]; exact Nat.ne_of_gt (blk_lt (g := gb101) (o := .cells #[.int .i64 a0_0, .slice A0_1 l0_1.length c0_1, .slice A0_2 l0_2.length c0_2] 25 (0, 0)) (sB BK101.out)) : gb137 ≠ gb101)); have n17_ := sA ((by rw [hg]; exact Nat.ne_of_lt (blk_lt (g := gb119) (o := .cells #[.int .i64 t110, .slice Ao23 t111.length co23, .slice Ao24 t114.length co24] 31 (0, 0)) (sB BK119.out)) : gb119 ≠ gb137)); have n18_ := sA ((by rw [hg]; exact Nat.ne_of_gt (blk_lt (g := gb119) (o := .cells #[.int .i64 t110, .slice Ao23 t111.length co23, .slice Ao24 t114.length co24] 31 (0, 0)) (sB BK119.out)) : gb137 ≠ gb119)); have n19_ := sA ((by rw [hg]; exact Nat.ne_of_lt (blk_lt (g := gb127) (o := .cells #[.int .i64 t120, .slice Ao31 t121.length co31, .slice Ao32 t124.length co32] 31 (0, 0)) (sB BK127.out)) : gb127 ≠ gb137)); have n20_ := sA ((by rw [hg]; exact Nat.ne_of_gt (blk_lt (g := gb127) (o := .cells #[.int .i64 t120, .slice Ao31 t121.length co31, .slice Ao32 t124.length co32] 31 (0, 0)) (sB BK127.out)) : gb137 ≠ gb127)); clear HO106; clear HO109; clear HO113; clear HO116; clear HO123; clear HO126; clear HO131; clear HO134; clear BK101; clear BK119; clear BK127; clear HB; have HO106 := n0_; have HO109 := n1_; have HO113 := n2_; have HO116 := n3_; have HO123 := n4_; have HO126 := n5_; have HO131 := n6_; have HO134 := n7_; have BK101 := n8_; have BK119 := n9_; have BK127 := n10_; have HB := n11_; have BK137 := n12_; have GW137 := n13_; have GE137 := n14_; have NB101_137 := n15_; have NB137_101 := n16_; have NB119_137 := n17_; have NB137_119 := n18_; have NB127_137 := n19_; have NB137_127 := n20_; clear n0_ n1_ n2_ n3_ n4_ n5_ n6_ n7_ n8_ n9_ n10_ n11_ n12_ n13_ n14_ n15_ n16_ n17_ n18_ n19_ n20_; clear hb hbox hg; have hnb35 := NB137_101.out; have hnc35 := NB101_137.out; have hnb36 := NB137_119.out; have hnc36 := NB119_137.out; have hnb37 := NB137_127.out; have hnc37 := NB127_137.out; have hcz38_0 : w34.cell? ⟨gb137, 0, none⟩ = some (.int .i64 0) := (blk_cell BK137.out 0).trans rfl; have hcz38_1 : w34.cell? ⟨gb137, 1, none⟩ = some (.slice none 0 0) := (blk_cell BK137.out 1).trans rfl; have hcz38_2 : w34.cell? ⟨gb137, 2, none⟩ = some (.slice none 0 0) := (blk_cell BK137.out 2).trans rfl; have hfz38_0 := blk_frozen BK137.out 0; have hfz38_1 := blk_frozen BK137.out 1; have hfz38_2 := blk_frozen BK137.out 2; obtain ⟨Ao39, co39, eo39⟩ := Kd.R_slice HO131.out; subst eo39; obtain ⟨Ao40, co40, eo40⟩ := Kd.R_slice HO134.out; subst eo40))
  (try simp only [Act.put, List.setIfInBounds_toArray, List.set_cons_zero, List.set_cons_succ])
  go_cut [50] (fun v50 wc => ∃ (kq : Nat) (x50_10 : Bool), v50 = .bool x50_10 ∧ Aside0 (laws_FnExactSendNext.j0 kq t117 t118 t135 t136 x50_10 a0_0 l0_1 l0_2 t110 t111 t114 t120 t121 t124 t128 t129 t132 = some r) ∧ Aside0 (kq ≤ k) ∧ Aside0 (Kd.R k59 59 wc w.heap.size (fun k_ => some k_ ≠ ((.slice Ao31 t121.length co31) : Value).ownBlock ∧ some k_ ≠ ((.slice Ao39 t129.length co39) : Value).ownBlock) (.slice Ao23 t111.length co23) t111) ∧ Aside0 (Kd.R (Kd.int .i64) 3 wc w.heap.size (fun k_ => some k_ ≠ ((.slice Ao32 t124.length co32) : Value).ownBlock ∧ some k_ ≠ ((.slice Ao40 t132.length co40) : Value).ownBlock) (.slice Ao24 t114.length co24) t114) ∧ Aside0 (Kd.R k59 59 wc w.heap.size (fun k_ => some k_ ≠ ((.slice Ao23 t111.length co23) : Value).ownBlock ∧ some k_ ≠ ((.slice Ao39 t129.length co39) : Value).ownBlock) (.slice Ao31 t121.length co31) t121) ∧ Aside0 (Kd.R (Kd.int .i64) 3 wc w.heap.size (fun k_ => some k_ ≠ ((.slice Ao24 t114.length co24) : Value).ownBlock ∧ some k_ ≠ ((.slice Ao40 t132.length co40) : Value).ownBlock) (.slice Ao32 t124.length co32) t124) ∧ Aside0 (Kd.R k59 59 wc w.heap.size (fun k_ => some k_ ≠ ((.slice Ao23 t111.length co23) : Value).ownBlock ∧ some k_ ≠ ((.slice Ao31 t121.length co31) : Value).ownBlock) (.slice Ao39 t129.length co39) t129) ∧ Aside0 (Kd.R (Kd.int .i64) 3 wc w.heap.size (fun k_ => some k_ ≠ ((.slice Ao24 t114.length co24) : Value).ownBlock ∧ some k_ ≠ ((.slice Ao32 t124.length co32) : Value).ownBlock) (.slice Ao40 t132.length co40) t132) ∧ Aside0 (wc.heap[gb101]? = some (.cells #[.int .i64 a0_0, (.slice A0_1 l0_1.length c0_1), (.slice A0_2 l0_2.length c0_2)] 25 (0, 0))) ∧ Aside0 (wc.heap[gb119]? = some (.cells #[.int .i64 t110, (.slice Ao23 t111.length co23), (.slice Ao24 t114.length co24)] 31 (0, 0))) ∧ Aside0 (wc.heap[gb127]? = some (.cells #[.int .i64 t120, (.slice Ao31 t121.length co31), (.slice Ao32 t124.length co32)] 31 (0, 0))) ∧ Aside0 (wc.heap[gb137]? = some (.cells #[.int .i64 t128, (.slice Ao39 t129.length co39), (.slice Ao40 t132.length co40)] 31 (0, 0))) ∧ Aside0 (Below w.heap.size w wc))
  case first =>
   have H := HC11.out
   clear HC11
   replace H := Option.bind_eq_some_iff.mp H
   obtain ⟨t138, A410, H⟩ := H
   replace H : (if t138 = true then (if t135 = t117 then (laws_FnExactSendNext.j0 k t117 t118 t135 t136 (t136 != t118) a0_0 l0_1 l0_2 t110 t111 t114 t120 t121 t124 t128 t129 t132) else (laws_FnExactSendNext.j0 k t117 t118 t135 t136 true a0_0 l0_1 l0_2 t110 t111 t114 t120 t121 t124 t128 t129 t132)) else (laws_FnExactSendNext.j0 k t117 t118 t135 t136 true a0_0 l0_1 l0_2 t110 t111 t114 t120 t121 t124 t128 t129 t132)) = some r := H
   have A41 := sA A410
   clear A410
   by_cases c42 : t138 = true
   ·subst c42
    have H1 : (if t135 = t117 then (laws_FnExactSendNext.j0 k t117 t118 t135 t136 (t136 != t118) a0_0 l0_1 l0_2 t110 t111 t114 t120 t121 t124 t128 t129 t132) else (laws_FnExactSendNext.j0 k t117 t118 t135 t136 true a0_0 l0_1 l0_2 t110 t111 t114 t120 t121 t124 t128 t129 t132)) = some r := by rw [if_pos rfl] at H; exact H
    clear H
    have H := H1
    clear H1
    by_cases c43 : t135 = t117
    ·rw [if_pos c43] at H
     have c43b0 : (t135 == t117) = true := beq_iff_eq.mpr c43
     have c43b1 : (t135 != t117) = false := bne_eq_false_iff_eq.mpr c43
     clear c43
     (first | rw [c43b0] | (simp only [i64_w, i32_w]; rw [c43b0]) | skip)
     have H' := sA H
     clear H
     have hnb44 := NB137_101.out
     have hnc44 := NB101_137.out
     have hnb45 := NB137_119.out
     have hnc45 := NB119_137.out
     have hnb46 := NB137_127.out
     have hnc46 := NB127_137.out
     have hcz47_0 : w34.cell? ⟨gb137, 0, none⟩ = some (.int .i64 0) := (blk_cell BK137.out 0).trans rfl
     have hcz47_1 : w34.cell? ⟨gb137, 1, none⟩ = some (.slice none 0 0) := (blk_cell BK137.out 1).trans rfl
     have hcz47_2 : w34.cell? ⟨gb137, 2, none⟩ = some (.slice none 0 0) := (blk_cell BK137.out 2).trans rfl
     have hfz47_0 := blk_frozen BK137.out 0
     have hfz47_1 := blk_frozen BK137.out 1
     have hfz47_2 := blk_frozen BK137.out 2
     have hnb48 := NB119_101.out
     have hnc48 := NB101_119.out
     have hnb49 := NB119_127.out
     have hnc49 := NB127_119.out
     have hcz50_0 : w34.cell? ⟨gb119, 0, none⟩ = some (.int .i64 t110) := (blk_cell BK119.out 0).trans rfl
     have hcz50_1 : w34.cell? ⟨gb119, 1, none⟩ = some (.slice Ao23 t111.length co23) := (blk_cell BK119.out 1).trans rfl
     have hcz50_2 : w34.cell? ⟨gb119, 2, none⟩ = some (.slice Ao24 t114.length co24) := (blk_cell BK119.out 2).trans rfl
     have hfz50_0 := blk_frozen BK119.out 0
     have hfz50_1 := blk_frozen BK119.out 1
     have hfz50_2 := blk_frozen BK119.out 2
     go_wp2_with (first | ((with_reducible refine gate_callee (f := 13) rfl ?_); refine goesL_ (some 39) rfl rfl Try.func13 (by kernel_rfl) rfl #[.agg #[.int .i64 t128, .slice Ao39 t129.length co39, .slice Ao40 t132.length co40], .agg #[.int .i64 t110, .slice Ao23 t111.length co23, .slice Ao24 t114.length co24]] rfl (by (try simp only [List.map_toArray, List.map_cons, List.map_nil]); first | done | rfl | (simp only [List.length_drop, List.length_take]; rfl)) ?_; (with_reducible refine (laws_eqSender.calls k t128 _ _ t129 _ _ t132 t110 _ _ t111 _ _ t114 true _ ?side1 ?side2 ?side3 ?side4 ?side5 ?side6 ?side7 ?side8 A41.out).mono ?_); (case side1 => refine (Kd.R_reads' (e := 59) (base := w.heap.size) (ok := fun k_ => (((True ∧ some k_ ≠ (.slice Ao17 t104.length co17 : Value).ownBlock) ∧ some k_ ≠ (.slice Ao23 t111.length co23 : Value).ownBlock) ∧ some k_ ≠ (.slice Ao31 t121.length co31 : Value).ownBlock)) (n := t129.length) (c := co39) ?_).2.2; exact (sR (Kd.R_mono (Kd.R_far (p := ⟨gb137, 2, none⟩) (Kd.R_far (p := ⟨gb137, 1, none⟩) (Kd.R_far (p := ⟨gb137, 0, none⟩) (Kd.R_types HO131.out BK137.out (by decide)) (fun _ hk => hk.2) (.int .i64 t128)) (fun _ hk => hk.2) (.slice Ao39 t129.length co39)) (fun _ hk => hk.2) (.slice Ao40 t132.length co40)) (fun _ h_ => h_.1)))); (case side2 => exact (Kd.R_reads' HO131.out).2.1); (case side3 => refine (Kd.R_reads' (e := 3) (base := w.heap.size) (ok := fun k_ => (((True ∧ some k_ ≠ (.slice Ao18 t107.length co18 : Value).ownBlock) ∧ some k_ ≠ (.slice Ao24 t114.length co24 : Value).ownBlock) ∧ some k_ ≠ (.slice Ao32 t124.length co32 : Value).ownBlock)) (n := t132.length) (c := co40) ?_).2.2; exact (sR (Kd.R_mono (Kd.R_far (p := ⟨gb137, 2, none⟩) (Kd.R_far (p := ⟨gb137, 1, none⟩) (Kd.R_far (p := ⟨gb137, 0, none⟩) (Kd.R_types HO134.out BK137.out (by decide)) (fun _ hk => hk.2) (.int .i64 t128)) (fun _ hk => hk.2) (.slice Ao39 t129.length co39)) (fun _ hk => hk.2) (.slice Ao40 t132.length co40)) (fun _ h_ => h_.1)))); (case side4 => exact (Kd.R_reads' HO134.out).2.1); (case side5 => refine (Kd.R_reads' (e := 59) (base := w.heap.size) (ok := fun k_ => (((True ∧ some k_ ≠ (.slice Ao17 t104.length co17 : Value).ownBlock) ∧ some k_ ≠ (.slice Ao31 t121.length co31 : Value).ownBlock) ∧ some k_ ≠ (.slice Ao39 t129.length co39 : Value).ownBlock)) (n := t111.length) (c := co23) ?_).2.2; exact (sR (Kd.R_mono (Kd.R_far (p := ⟨gb137, 2, none⟩) (Kd.R_far (p := ⟨gb137, 1, none⟩) (Kd.R_far (p := ⟨gb137, 0, none⟩) (Kd.R_types HO113.out BK137.out (by decide)) (fun _ hk => hk.2) (.int .i64 t128)) (fun _ hk => hk.2) (.slice Ao39 t129.length co39)) (fun _ hk => hk.2) (.slice Ao40 t132.length co40)) (fun _ h_ => h_.1)))); (case side6 => exact (Kd.R_reads' HO113.out).2.1); (case side7 => refine (Kd.R_reads' (e := 3) (base := w.heap.size) (ok := fun k_ => (((True ∧ some k_ ≠ (.slice Ao18 t107.length co18 : Value).ownBlock) ∧ some k_ ≠ (.slice Ao32 t124.length co32 : Value).ownBlock) ∧ some k_ ≠ (.slice Ao40 t132.length co40 : Value).ownBlock)) (n := t114.length) (c := co24) ?_).2.2; exact (sR (Kd.R_mono (Kd.R_far (p := ⟨gb137, 2, none⟩) (Kd.R_far (p := ⟨gb137, 1, none⟩) (Kd.R_far (p := ⟨gb137, 0, none⟩) (Kd.R_types HO116.out BK137.out (by decide)) (fun _ hk => hk.2) (.int .i64 t128)) (fun _ hk => hk.2) (.slice Ao39 t129.length co39)) (fun _ hk => hk.2) (.slice Ao40 t132.length co40)) (fun _ h_ => h_.1)))); (case side8 => exact (Kd.R_reads' HO116.out).2.1); rintro e w51 ⟨rfl, hb⟩; refine ⟨_, rfl, ?_⟩; have n0_ := sA (Kd.R_below (sR (Kd.R_mono (Kd.R_far (p := ⟨gb137, 2, none⟩) (Kd.R_far (p := ⟨gb137, 1, none⟩) (Kd.R_far (p := ⟨gb137, 0, none⟩) (Kd.R_types HO106.out BK137.out (by decide)) (fun _ hk => hk.2) (.int .i64 t128)) (fun _ hk => hk.2) (.slice Ao39 t129.length co39)) (fun _ hk => hk.2) (.slice Ao40 t132.length co40)) (fun _ h_ => h_.1))) hb); have n1_ := sA (Kd.R_below (sR (Kd.R_mono (Kd.R_far (p := ⟨gb137, 2, none⟩) (Kd.R_far (p := ⟨gb137, 1, none⟩) (Kd.R_far (p := ⟨gb137, 0, none⟩) (Kd.R_types HO109.out BK137.out (by decide)) (fun _ hk => hk.2) (.int .i64 t128)) (fun _ hk => hk.2) (.slice Ao39 t129.length co39)) (fun _ hk => hk.2) (.slice Ao40 t132.length co40)) (fun _ h_ => h_.1))) hb); have n2_ := sA (Kd.R_below (sR (Kd.R_mono (Kd.R_far (p := ⟨gb137, 2, none⟩) (Kd.R_far (p := ⟨gb137, 1, none⟩) (Kd.R_far (p := ⟨gb137, 0, none⟩) (Kd.R_types HO113.out BK137.out (by decide)) (fun _ hk => hk.2) (.int .i64 t128)) (fun _ hk => hk.2) (.slice Ao39 t129.length co39)) (fun _ hk => hk.2) (.slice Ao40 t132.length co40)) (fun _ h_ => h_.1))) hb); have n3_ := sA (Kd.R_below (sR (Kd.R_mono (Kd.R_far (p := ⟨gb137, 2, none⟩) (Kd.R_far (p := ⟨gb137, 1, none⟩) (Kd.R_far (p := ⟨gb137, 0, none⟩) (Kd.R_types HO116.out BK137.out (by decide)) (fun _ hk => hk.2) (.int .i64 t128)) (fun _ hk => hk.2) (.slice Ao39 t129.length co39)) (fun _ hk => hk.2) (.slice Ao40 t132.length co40)) (fun _ h_ => h_.1))) hb); have n4_ := sA (Kd.R_below (sR (Kd.R_mono (Kd.R_far (p := ⟨gb137, 2, none⟩) (Kd.R_far (p := ⟨gb137, 1, none⟩) (Kd.R_far (p := ⟨gb137, 0, none⟩) (Kd.R_types HO123.out BK137.out (by decide)) (fun _ hk => hk.2) (.int .i64 t128)) (fun _ hk => hk.2) (.slice Ao39 t129.length co39)) (fun _ hk => hk.2) (.slice Ao40 t132.length co40)) (fun _ h_ => h_.1))) hb); have n5_ := sA (Kd.R_below (sR (Kd.R_mono (Kd.R_far (p := ⟨gb137, 2, none⟩) (Kd.R_far (p := ⟨gb137, 1, none⟩) (Kd.R_far (p := ⟨gb137, 0, none⟩) (Kd.R_types HO126.out BK137.out (by decide)) (fun _ hk => hk.2) (.int .i64 t128)) (fun _ hk => hk.2) (.slice Ao39 t129.length co39)) (fun _ hk => hk.2) (.slice Ao40 t132.length co40)) (fun _ h_ => h_.1))) hb); have n6_ := sA (Kd.R_below (sR (Kd.R_mono (Kd.R_far (p := ⟨gb137, 2, none⟩) (Kd.R_far (p := ⟨gb137, 1, none⟩) (Kd.R_far (p := ⟨gb137, 0, none⟩) (Kd.R_types HO131.out BK137.out (by decide)) (fun _ hk => hk.2) (.int .i64 t128)) (fun _ hk => hk.2) (.slice Ao39 t129.length co39)) (fun _ hk => hk.2) (.slice Ao40 t132.length co40)) (fun _ h_ => h_.1))) hb); have n7_ := sA (Kd.R_below (sR (Kd.R_mono (Kd.R_far (p := ⟨gb137, 2, none⟩) (Kd.R_far (p := ⟨gb137, 1, none⟩) (Kd.R_far (p := ⟨gb137, 0, none⟩) (Kd.R_types HO134.out BK137.out (by decide)) (fun _ hk => hk.2) (.int .i64 t128)) (fun _ hk => hk.2) (.slice Ao39 t129.length co39)) (fun _ hk => hk.2) (.slice Ao40 t132.length co40)) (fun _ h_ => h_.1))) hb); have n8_ := sA (blk_below (g := gb101) (o := .cells #[.int .i64 a0_0, .slice A0_1 l0_1.length c0_1, .slice A0_2 l0_2.length c0_2] 25 (0, 0)) (by (with_reducible repeat first | apply blk_drewN | apply blk_drew | apply blk_alloc); refine blk_far ?_ NB101_137.out _; (with_reducible repeat first | apply blk_drewN | apply blk_drew | apply blk_alloc); refine blk_far ?_ NB101_137.out _; (with_reducible repeat first | apply blk_drewN | apply blk_drew | apply blk_alloc); refine blk_far ?_ NB101_137.out _; (with_reducible repeat first | apply blk_drewN | apply blk_drew | apply blk_alloc); exact BK101.out) hb); have n9_ := sA (blk_below (g := gb119) (o := .cells #[.int .i64 t110, .slice Ao23 t111.length co23, .slice Ao24 t114.length co24] 31 (0, 0)) (by (with_reducible repeat first | apply blk_drewN | apply blk_drew | apply blk_alloc); refine blk_far ?_ NB119_137.out _; (with_reducible repeat first | apply blk_drewN | apply blk_drew | apply blk_alloc); refine blk_far ?_ NB119_137.out _; (with_reducible repeat first | apply blk_drewN | apply blk_drew | apply blk_alloc); refine blk_far ?_ NB119_137.out _; (with_reducible repeat first | apply blk_drewN | apply blk_drew | apply blk_alloc); exact BK119.out) hb); have n10_ := sA (blk_below (g := gb127) (o := .cells #[.int .i64 t120, .slice Ao31 t121.length co31, .slice Ao32 t124.length co32] 31 (0, 0)) (by (with_reducible repeat first | apply blk_drewN | apply blk_drew | apply blk_alloc); refine blk_far ?_ NB127_137.out _; (with_reducible repeat first | apply blk_drewN | apply blk_drew | apply blk_alloc); refine blk_far ?_ NB127_137.out _; (with_reducible repeat first | apply blk_drewN | apply blk_drew | apply blk_alloc); refine blk_far ?_ NB127_137.out _; (with_reducible repeat first | apply blk_drewN | apply blk_drew | apply blk_alloc); exact BK127.out) hb); have n11_ := sA (blk_below (g := gb137) (o := .cells #[.int .i64 t128, .slice Ao39 t129.length co39, .slice Ao40 t132.length co40] 31 (0, 0)) (by (with_reducible repeat first | apply blk_drewN | apply blk_drew | apply blk_alloc); refine blk_put (cs := #[.int .i64 t128, .slice Ao39 t129.length co39, .slice none 0 0]) ?_ 2 _ rfl; (with_reducible repeat first | apply blk_drewN | apply blk_drew | apply blk_alloc); refine blk_put (cs := #[.int .i64 t128, .slice none 0 0, .slice none 0 0]) ?_ 1 _ rfl; (with_reducible repeat first | apply blk_drewN | apply blk_drew | apply blk_alloc); refine blk_put (cs := #[.int .i64 0, .slice none 0 0, .slice none 0 0]) ?_ 0 _ rfl; (with_reducible repeat first | apply blk_drewN | apply blk_drew | apply blk_alloc); exact BK137.out) hb); have n12_ := sA (below_step (by repeat (first | (with_reducible first | exact HB.out | apply below_alloc | apply pw_below_drewN | apply below_drew1 | refine below_set ?_ (Aside0.out (by assumption))) | exact HB.out)) hb); clear HO106; clear HO109; clear HO113; clear HO116; clear HO123; clear HO126; clear HO131; clear HO134; clear BK101; clear BK119; clear BK127; clear BK137; clear HB; have HO106 := n0_; have HO109 := n1_; have HO113 := n2_; have HO116 := n3_; have HO123 := n4_; have HO126 := n5_; have HO131 := n6_; have HO134 := n7_; have BK101 := n8_; have BK119 := n9_; have BK127 := n10_; have BK137 := n11_; have HB := n12_; clear n0_ n1_ n2_ n3_ n4_ n5_ n6_ n7_ n8_ n9_ n10_ n11_ n12_; (try clear hb); (try clear hb2); (try clear hk); (try clear hi)))
     go_meet
     case rel => exact ⟨_, ((t136 != t118)), (by first | rfl | (simp; done) | (simp [*]; done)), H', ⟨by first | omega | exact Nat.le_refl _⟩, ⟨sR (Kd.R_mono HO113.out (fun _ hk => ⟨hk.1.2, hk.2⟩))⟩, ⟨sR (Kd.R_mono HO116.out (fun _ hk => ⟨hk.1.2, hk.2⟩))⟩, ⟨sR (Kd.R_mono HO123.out (fun _ hk => ⟨hk.1.2, hk.2⟩))⟩, ⟨sR (Kd.R_mono HO126.out (fun _ hk => ⟨hk.1.2, hk.2⟩))⟩, ⟨sR (Kd.R_mono HO131.out (fun _ hk => ⟨hk.1.2, hk.2⟩))⟩, ⟨sR (Kd.R_mono HO134.out (fun _ hk => ⟨hk.1.2, hk.2⟩))⟩, ⟨sB BK101.out⟩, ⟨sB BK119.out⟩, ⟨sB BK127.out⟩, ⟨sB BK137.out⟩, ⟨by repeat (first | (with_reducible first | exact HB.out | apply below_alloc | apply pw_below_drewN | apply below_drew1 | refine below_set ?_ GE101.out | refine below_set ?_ GE119.out | refine below_set ?_ GE127.out | refine below_set ?_ GE137.out) | exact HB.out)⟩⟩
    ·rw [if_neg c43] at H
     have c43b0 : (t135 == t117) = false := beq_eq_false_iff_ne.mpr c43
     have c43b1 : (t135 != t117) = true := bne_iff_ne.mpr c43
     (first | rw [c43b0] | (simp only [i64_w, i32_w]; rw [c43b0]) | skip)
     have H' := sA H
     clear H
     have hnb52 := NB137_101.out
     have hnc52 := NB101_137.out
     have hnb53 := NB137_119.out
     have hnc53 := NB119_137.out
     have hnb54 := NB137_127.out
     have hnc54 := NB127_137.out
     have hcz55_0 : w34.cell? ⟨gb137, 0, none⟩ = some (.int .i64 0) := (blk_cell BK137.out 0).trans rfl
     have hcz55_1 : w34.cell? ⟨gb137, 1, none⟩ = some (.slice none 0 0) := (blk_cell BK137.out 1).trans rfl
     have hcz55_2 : w34.cell? ⟨gb137, 2, none⟩ = some (.slice none 0 0) := (blk_cell BK137.out 2).trans rfl
     have hfz55_0 := blk_frozen BK137.out 0
     have hfz55_1 := blk_frozen BK137.out 1
     have hfz55_2 := blk_frozen BK137.out 2
     have hnb56 := NB119_101.out
     have hnc56 := NB101_119.out
     have hnb57 := NB119_127.out
     have hnc57 := NB127_119.out
     have hcz58_0 : w34.cell? ⟨gb119, 0, none⟩ = some (.int .i64 t110) := (blk_cell BK119.out 0).trans rfl
     have hcz58_1 : w34.cell? ⟨gb119, 1, none⟩ = some (.slice Ao23 t111.length co23) := (blk_cell BK119.out 1).trans rfl
     have hcz58_2 : w34.cell? ⟨gb119, 2, none⟩ = some (.slice Ao24 t114.length co24) := (blk_cell BK119.out 2).trans rfl
     have hfz58_0 := blk_frozen BK119.out 0
     have hfz58_1 := blk_frozen BK119.out 1
     have hfz58_2 := blk_frozen BK119.out 2
     go_wp2_with (first | ((with_reducible refine gate_callee (f := 13) rfl ?_); refine goesL_ (some 39) rfl rfl Try.func13 (by kernel_rfl) rfl #[.agg #[.int .i64 t128, .slice Ao39 t129.length co39, .slice Ao40 t132.length co40], .agg #[.int .i64 t110, .slice Ao23 t111.length co23, .slice Ao24 t114.length co24]] rfl (by (try simp only [List.map_toArray, List.map_cons, List.map_nil]); first | done | rfl | (simp only [List.length_drop, List.length_take]; rfl)) ?_; (with_reducible refine (laws_eqSender.calls k t128 _ _ t129 _ _ t132 t110 _ _ t111 _ _ t114 true _ ?side1 ?side2 ?side3 ?side4 ?side5 ?side6 ?side7 ?side8 A41.out).mono ?_); (case side1 => refine (Kd.R_reads' (e := 59) (base := w.heap.size) (ok := fun k_ => (((True ∧ some k_ ≠ (.slice Ao17 t104.length co17 : Value).ownBlock) ∧ some k_ ≠ (.slice Ao23 t111.length co23 : Value).ownBlock) ∧ some k_ ≠ (.slice Ao31 t121.length co31 : Value).ownBlock)) (n := t129.length) (c := co39) ?_).2.2; exact (sR (Kd.R_mono (Kd.R_far (p := ⟨gb137, 2, none⟩) (Kd.R_far (p := ⟨gb137, 1, none⟩) (Kd.R_far (p := ⟨gb137, 0, none⟩) (Kd.R_types HO131.out BK137.out (by decide)) (fun _ hk => hk.2) (.int .i64 t128)) (fun _ hk => hk.2) (.slice Ao39 t129.length co39)) (fun _ hk => hk.2) (.slice Ao40 t132.length co40)) (fun _ h_ => h_.1)))); (case side2 => exact (Kd.R_reads' HO131.out).2.1); (case side3 => refine (Kd.R_reads' (e := 3) (base := w.heap.size) (ok := fun k_ => (((True ∧ some k_ ≠ (.slice Ao18 t107.length co18 : Value).ownBlock) ∧ some k_ ≠ (.slice Ao24 t114.length co24 : Value).ownBlock) ∧ some k_ ≠ (.slice Ao32 t124.length co32 : Value).ownBlock)) (n := t132.length) (c := co40) ?_).2.2; exact (sR (Kd.R_mono (Kd.R_far (p := ⟨gb137, 2, none⟩) (Kd.R_far (p := ⟨gb137, 1, none⟩) (Kd.R_far (p := ⟨gb137, 0, none⟩) (Kd.R_types HO134.out BK137.out (by decide)) (fun _ hk => hk.2) (.int .i64 t128)) (fun _ hk => hk.2) (.slice Ao39 t129.length co39)) (fun _ hk => hk.2) (.slice Ao40 t132.length co40)) (fun _ h_ => h_.1)))); (case side4 => exact (Kd.R_reads' HO134.out).2.1); (case side5 => refine (Kd.R_reads' (e := 59) (base := w.heap.size) (ok := fun k_ => (((True ∧ some k_ ≠ (.slice Ao17 t104.length co17 : Value).ownBlock) ∧ some k_ ≠ (.slice Ao31 t121.length co31 : Value).ownBlock) ∧ some k_ ≠ (.slice Ao39 t129.length co39 : Value).ownBlock)) (n := t111.length) (c := co23) ?_).2.2; exact (sR (Kd.R_mono (Kd.R_far (p := ⟨gb137, 2, none⟩) (Kd.R_far (p := ⟨gb137, 1, none⟩) (Kd.R_far (p := ⟨gb137, 0, none⟩) (Kd.R_types HO113.out BK137.out (by decide)) (fun _ hk => hk.2) (.int .i64 t128)) (fun _ hk => hk.2) (.slice Ao39 t129.length co39)) (fun _ hk => hk.2) (.slice Ao40 t132.length co40)) (fun _ h_ => h_.1)))); (case side6 => exact (Kd.R_reads' HO113.out).2.1); (case side7 => refine (Kd.R_reads' (e := 3) (base := w.heap.size) (ok := fun k_ => (((True ∧ some k_ ≠ (.slice Ao18 t107.length co18 : Value).ownBlock) ∧ some k_ ≠ (.slice Ao32 t124.length co32 : Value).ownBlock) ∧ some k_ ≠ (.slice Ao40 t132.length co40 : Value).ownBlock)) (n := t114.length) (c := co24) ?_).2.2; exact (sR (Kd.R_mono (Kd.R_far (p := ⟨gb137, 2, none⟩) (Kd.R_far (p := ⟨gb137, 1, none⟩) (Kd.R_far (p := ⟨gb137, 0, none⟩) (Kd.R_types HO116.out BK137.out (by decide)) (fun _ hk => hk.2) (.int .i64 t128)) (fun _ hk => hk.2) (.slice Ao39 t129.length co39)) (fun _ hk => hk.2) (.slice Ao40 t132.length co40)) (fun _ h_ => h_.1)))); (case side8 => exact (Kd.R_reads' HO116.out).2.1); rintro e w59 ⟨rfl, hb⟩; refine ⟨_, rfl, ?_⟩; have n0_ := sA (Kd.R_below (sR (Kd.R_mono (Kd.R_far (p := ⟨gb137, 2, none⟩) (Kd.R_far (p := ⟨gb137, 1, none⟩) (Kd.R_far (p := ⟨gb137, 0, none⟩) (Kd.R_types HO106.out BK137.out (by decide)) (fun _ hk => hk.2) (.int .i64 t128)) (fun _ hk => hk.2) (.slice Ao39 t129.length co39)) (fun _ hk => hk.2) (.slice Ao40 t132.length co40)) (fun _ h_ => h_.1))) hb); have n1_ := sA (Kd.R_below (sR (Kd.R_mono (Kd.R_far (p := ⟨gb137, 2, none⟩) (Kd.R_far (p := ⟨gb137, 1, none⟩) (Kd.R_far (p := ⟨gb137, 0, none⟩) (Kd.R_types HO109.out BK137.out (by decide)) (fun _ hk => hk.2) (.int .i64 t128)) (fun _ hk => hk.2) (.slice Ao39 t129.length co39)) (fun _ hk => hk.2) (.slice Ao40 t132.length co40)) (fun _ h_ => h_.1))) hb); have n2_ := sA (Kd.R_below (sR (Kd.R_mono (Kd.R_far (p := ⟨gb137, 2, none⟩) (Kd.R_far (p := ⟨gb137, 1, none⟩) (Kd.R_far (p := ⟨gb137, 0, none⟩) (Kd.R_types HO113.out BK137.out (by decide)) (fun _ hk => hk.2) (.int .i64 t128)) (fun _ hk => hk.2) (.slice Ao39 t129.length co39)) (fun _ hk => hk.2) (.slice Ao40 t132.length co40)) (fun _ h_ => h_.1))) hb); have n3_ := sA (Kd.R_below (sR (Kd.R_mono (Kd.R_far (p := ⟨gb137, 2, none⟩) (Kd.R_far (p := ⟨gb137, 1, none⟩) (Kd.R_far (p := ⟨gb137, 0, none⟩) (Kd.R_types HO116.out BK137.out (by decide)) (fun _ hk => hk.2) (.int .i64 t128)) (fun _ hk => hk.2) (.slice Ao39 t129.length co39)) (fun _ hk => hk.2) (.slice Ao40 t132.length co40)) (fun _ h_ => h_.1))) hb); have n4_ := sA (Kd.R_below (sR (Kd.R_mono (Kd.R_far (p := ⟨gb137, 2, none⟩) (Kd.R_far (p := ⟨gb137, 1, none⟩) (Kd.R_far (p := ⟨gb137, 0, none⟩) (Kd.R_types HO123.out BK137.out (by decide)) (fun _ hk => hk.2) (.int .i64 t128)) (fun _ hk => hk.2) (.slice Ao39 t129.length co39)) (fun _ hk => hk.2) (.slice Ao40 t132.length co40)) (fun _ h_ => h_.1))) hb); have n5_ := sA (Kd.R_below (sR (Kd.R_mono (Kd.R_far (p := ⟨gb137, 2, none⟩) (Kd.R_far (p := ⟨gb137, 1, none⟩) (Kd.R_far (p := ⟨gb137, 0, none⟩) (Kd.R_types HO126.out BK137.out (by decide)) (fun _ hk => hk.2) (.int .i64 t128)) (fun _ hk => hk.2) (.slice Ao39 t129.length co39)) (fun _ hk => hk.2) (.slice Ao40 t132.length co40)) (fun _ h_ => h_.1))) hb); have n6_ := sA (Kd.R_below (sR (Kd.R_mono (Kd.R_far (p := ⟨gb137, 2, none⟩) (Kd.R_far (p := ⟨gb137, 1, none⟩) (Kd.R_far (p := ⟨gb137, 0, none⟩) (Kd.R_types HO131.out BK137.out (by decide)) (fun _ hk => hk.2) (.int .i64 t128)) (fun _ hk => hk.2) (.slice Ao39 t129.length co39)) (fun _ hk => hk.2) (.slice Ao40 t132.length co40)) (fun _ h_ => h_.1))) hb); have n7_ := sA (Kd.R_below (sR (Kd.R_mono (Kd.R_far (p := ⟨gb137, 2, none⟩) (Kd.R_far (p := ⟨gb137, 1, none⟩) (Kd.R_far (p := ⟨gb137, 0, none⟩) (Kd.R_types HO134.out BK137.out (by decide)) (fun _ hk => hk.2) (.int .i64 t128)) (fun _ hk => hk.2) (.slice Ao39 t129.length co39)) (fun _ hk => hk.2) (.slice Ao40 t132.length co40)) (fun _ h_ => h_.1))) hb); have n8_ := sA (blk_below (g := gb101) (o := .cells #[.int .i64 a0_0, .slice A0_1 l0_1.length c0_1, .slice A0_2 l0_2.length c0_2] 25 (0, 0)) (by (with_reducible repeat first | apply blk_drewN | apply blk_drew | apply blk_alloc); refine blk_far ?_ NB101_137.out _; (with_reducible repeat first | apply blk_drewN | apply blk_drew | apply blk_alloc); refine blk_far ?_ NB101_137.out _; (with_reducible repeat first | apply blk_drewN | apply blk_drew | apply blk_alloc); refine blk_far ?_ NB101_137.out _; (with_reducible repeat first | apply blk_drewN | apply blk_drew | apply blk_alloc); exact BK101.out) hb); have n9_ := sA (blk_below (g := gb119) (o := .cells #[.int .i64 t110, .slice Ao23 t111.length co23, .slice Ao24 t114.length co24] 31 (0, 0)) (by (with_reducible repeat first | apply blk_drewN | apply blk_drew | apply blk_alloc); refine blk_far ?_ NB119_137.out _; (with_reducible repeat first | apply blk_drewN | apply blk_drew | apply blk_alloc); refine blk_far ?_ NB119_137.out _; (with_reducible repeat first | apply blk_drewN | apply blk_drew | apply blk_alloc); refine blk_far ?_ NB119_137.out _; (with_reducible repeat first | apply blk_drewN | apply blk_drew | apply blk_alloc); exact BK119.out) hb); have n10_ := sA (blk_below (g := gb127) (o := .cells #[.int .i64 t120, .slice Ao31 t121.length co31, .slice Ao32 t124.length co32] 31 (0, 0)) (by (with_reducible repeat first | apply blk_drewN | apply blk_drew | apply blk_alloc); refine blk_far ?_ NB127_137.out _; (with_reducible repeat first | apply blk_drewN | apply blk_drew | apply blk_alloc); refine blk_far ?_ NB127_137.out _; (with_reducible repeat first | apply blk_drewN | apply blk_drew | apply blk_alloc); refine blk_far ?_ NB127_137.out _; (with_reducible repeat first | apply blk_drewN | apply blk_drew | apply blk_alloc); exact BK127.out) hb); have n11_ := sA (blk_below (g := gb137) (o := .cells #[.int .i64 t128, .slice Ao39 t129.length co39, .slice Ao40 t132.length co40] 31 (0, 0)) (by (with_reducible repeat first | apply blk_drewN | apply blk_drew | apply blk_alloc); refine blk_put (cs := #[.int .i64 t128, .slice Ao39 t129.length co39, .slice none 0 0]) ?_ 2 _ rfl; (with_reducible repeat first | apply blk_drewN | apply blk_drew | apply blk_alloc); refine blk_put (cs := #[.int .i64 t128, .slice none 0 0, .slice none 0 0]) ?_ 1 _ rfl; (with_reducible repeat first | apply blk_drewN | apply blk_drew | apply blk_alloc); refine blk_put (cs := #[.int .i64 0, .slice none 0 0, .slice none 0 0]) ?_ 0 _ rfl; (with_reducible repeat first | apply blk_drewN | apply blk_drew | apply blk_alloc); exact BK137.out) hb); have n12_ := sA (below_step (by repeat (first | (with_reducible first | exact HB.out | apply below_alloc | apply pw_below_drewN | apply below_drew1 | refine below_set ?_ (Aside0.out (by assumption))) | exact HB.out)) hb); clear HO106; clear HO109; clear HO113; clear HO116; clear HO123; clear HO126; clear HO131; clear HO134; clear BK101; clear BK119; clear BK127; clear BK137; clear HB; have HO106 := n0_; have HO109 := n1_; have HO113 := n2_; have HO116 := n3_; have HO123 := n4_; have HO126 := n5_; have HO131 := n6_; have HO134 := n7_; have BK101 := n8_; have BK119 := n9_; have BK127 := n10_; have BK137 := n11_; have HB := n12_; clear n0_ n1_ n2_ n3_ n4_ n5_ n6_ n7_ n8_ n9_ n10_ n11_ n12_; (try clear hb); (try clear hb2); (try clear hk); (try clear hi)))
     go_meet
     case rel => exact ⟨_, (true), (by first | rfl | (simp; done) | (simp [*]; done)), H', ⟨by first | omega | exact Nat.le_refl _⟩, ⟨sR (Kd.R_mono HO113.out (fun _ hk => ⟨hk.1.2, hk.2⟩))⟩, ⟨sR (Kd.R_mono HO116.out (fun _ hk => ⟨hk.1.2, hk.2⟩))⟩, ⟨sR (Kd.R_mono HO123.out (fun _ hk => ⟨hk.1.2, hk.2⟩))⟩, ⟨sR (Kd.R_mono HO126.out (fun _ hk => ⟨hk.1.2, hk.2⟩))⟩, ⟨sR (Kd.R_mono HO131.out (fun _ hk => ⟨hk.1.2, hk.2⟩))⟩, ⟨sR (Kd.R_mono HO134.out (fun _ hk => ⟨hk.1.2, hk.2⟩))⟩, ⟨sB BK101.out⟩, ⟨sB BK119.out⟩, ⟨sB BK127.out⟩, ⟨sB BK137.out⟩, ⟨by repeat (first | (with_reducible first | exact HB.out | apply below_alloc | apply pw_below_drewN | apply below_drew1 | refine below_set ?_ GE101.out | refine below_set ?_ GE119.out | refine below_set ?_ GE127.out | refine below_set ?_ GE137.out) | exact HB.out)⟩⟩
   ·replace c42 := Bool.eq_false_iff.mpr c42
    subst c42
    have H1 : (laws_FnExactSendNext.j0 k t117 t118 t135 t136 true a0_0 l0_1 l0_2 t110 t111 t114 t120 t121 t124 t128 t129 t132) = some r := by rw [if_neg (show ¬ (false = true) by decide)] at H; exact H
    clear H
    have H := H1
    clear H1
    have H' := sA H
    clear H
    have hnb60 := NB137_101.out
    have hnc60 := NB101_137.out
    have hnb61 := NB137_119.out
    have hnc61 := NB119_137.out
    have hnb62 := NB137_127.out
    have hnc62 := NB127_137.out
    have hcz63_0 : w34.cell? ⟨gb137, 0, none⟩ = some (.int .i64 0) := (blk_cell BK137.out 0).trans rfl
    have hcz63_1 : w34.cell? ⟨gb137, 1, none⟩ = some (.slice none 0 0) := (blk_cell BK137.out 1).trans rfl
    have hcz63_2 : w34.cell? ⟨gb137, 2, none⟩ = some (.slice none 0 0) := (blk_cell BK137.out 2).trans rfl
    have hfz63_0 := blk_frozen BK137.out 0
    have hfz63_1 := blk_frozen BK137.out 1
    have hfz63_2 := blk_frozen BK137.out 2
    have hnb64 := NB119_101.out
    have hnc64 := NB101_119.out
    have hnb65 := NB119_127.out
    have hnc65 := NB127_119.out
    have hcz66_0 : w34.cell? ⟨gb119, 0, none⟩ = some (.int .i64 t110) := (blk_cell BK119.out 0).trans rfl
    have hcz66_1 : w34.cell? ⟨gb119, 1, none⟩ = some (.slice Ao23 t111.length co23) := (blk_cell BK119.out 1).trans rfl
    have hcz66_2 : w34.cell? ⟨gb119, 2, none⟩ = some (.slice Ao24 t114.length co24) := (blk_cell BK119.out 2).trans rfl
    have hfz66_0 := blk_frozen BK119.out 0
    have hfz66_1 := blk_frozen BK119.out 1
    have hfz66_2 := blk_frozen BK119.out 2
    go_wp2_with (first | ((with_reducible refine gate_callee (f := 13) rfl ?_); refine goesL_ (some 39) rfl rfl Try.func13 (by kernel_rfl) rfl #[.agg #[.int .i64 t128, .slice Ao39 t129.length co39, .slice Ao40 t132.length co40], .agg #[.int .i64 t110, .slice Ao23 t111.length co23, .slice Ao24 t114.length co24]] rfl (by (try simp only [List.map_toArray, List.map_cons, List.map_nil]); first | done | rfl | (simp only [List.length_drop, List.length_take]; rfl)) ?_; (with_reducible refine (laws_eqSender.calls k t128 _ _ t129 _ _ t132 t110 _ _ t111 _ _ t114 false _ ?side1 ?side2 ?side3 ?side4 ?side5 ?side6 ?side7 ?side8 A41.out).mono ?_); (case side1 => refine (Kd.R_reads' (e := 59) (base := w.heap.size) (ok := fun k_ => (((True ∧ some k_ ≠ (.slice Ao17 t104.length co17 : Value).ownBlock) ∧ some k_ ≠ (.slice Ao23 t111.length co23 : Value).ownBlock) ∧ some k_ ≠ (.slice Ao31 t121.length co31 : Value).ownBlock)) (n := t129.length) (c := co39) ?_).2.2; exact (sR (Kd.R_mono (Kd.R_far (p := ⟨gb137, 2, none⟩) (Kd.R_far (p := ⟨gb137, 1, none⟩) (Kd.R_far (p := ⟨gb137, 0, none⟩) (Kd.R_types HO131.out BK137.out (by decide)) (fun _ hk => hk.2) (.int .i64 t128)) (fun _ hk => hk.2) (.slice Ao39 t129.length co39)) (fun _ hk => hk.2) (.slice Ao40 t132.length co40)) (fun _ h_ => h_.1)))); (case side2 => exact (Kd.R_reads' HO131.out).2.1); (case side3 => refine (Kd.R_reads' (e := 3) (base := w.heap.size) (ok := fun k_ => (((True ∧ some k_ ≠ (.slice Ao18 t107.length co18 : Value).ownBlock) ∧ some k_ ≠ (.slice Ao24 t114.length co24 : Value).ownBlock) ∧ some k_ ≠ (.slice Ao32 t124.length co32 : Value).ownBlock)) (n := t132.length) (c := co40) ?_).2.2; exact (sR (Kd.R_mono (Kd.R_far (p := ⟨gb137, 2, none⟩) (Kd.R_far (p := ⟨gb137, 1, none⟩) (Kd.R_far (p := ⟨gb137, 0, none⟩) (Kd.R_types HO134.out BK137.out (by decide)) (fun _ hk => hk.2) (.int .i64 t128)) (fun _ hk => hk.2) (.slice Ao39 t129.length co39)) (fun _ hk => hk.2) (.slice Ao40 t132.length co40)) (fun _ h_ => h_.1)))); (case side4 => exact (Kd.R_reads' HO134.out).2.1); (case side5 => refine (Kd.R_reads' (e := 59) (base := w.heap.size) (ok := fun k_ => (((True ∧ some k_ ≠ (.slice Ao17 t104.length co17 : Value).ownBlock) ∧ some k_ ≠ (.slice Ao31 t121.length co31 : Value).ownBlock) ∧ some k_ ≠ (.slice Ao39 t129.length co39 : Value).ownBlock)) (n := t111.length) (c := co23) ?_).2.2; exact (sR (Kd.R_mono (Kd.R_far (p := ⟨gb137, 2, none⟩) (Kd.R_far (p := ⟨gb137, 1, none⟩) (Kd.R_far (p := ⟨gb137, 0, none⟩) (Kd.R_types HO113.out BK137.out (by decide)) (fun _ hk => hk.2) (.int .i64 t128)) (fun _ hk => hk.2) (.slice Ao39 t129.length co39)) (fun _ hk => hk.2) (.slice Ao40 t132.length co40)) (fun _ h_ => h_.1)))); (case side6 => exact (Kd.R_reads' HO113.out).2.1); (case side7 => refine (Kd.R_reads' (e := 3) (base := w.heap.size) (ok := fun k_ => (((True ∧ some k_ ≠ (.slice Ao18 t107.length co18 : Value).ownBlock) ∧ some k_ ≠ (.slice Ao32 t124.length co32 : Value).ownBlock) ∧ some k_ ≠ (.slice Ao40 t132.length co40 : Value).ownBlock)) (n := t114.length) (c := co24) ?_).2.2; exact (sR (Kd.R_mono (Kd.R_far (p := ⟨gb137, 2, none⟩) (Kd.R_far (p := ⟨gb137, 1, none⟩) (Kd.R_far (p := ⟨gb137, 0, none⟩) (Kd.R_types HO116.out BK137.out (by decide)) (fun _ hk => hk.2) (.int .i64 t128)) (fun _ hk => hk.2) (.slice Ao39 t129.length co39)) (fun _ hk => hk.2) (.slice Ao40 t132.length co40)) (fun _ h_ => h_.1)))); (case side8 => exact (Kd.R_reads' HO116.out).2.1); rintro e w67 ⟨rfl, hb⟩; refine ⟨_, rfl, ?_⟩; have n0_ := sA (Kd.R_below (sR (Kd.R_mono (Kd.R_far (p := ⟨gb137, 2, none⟩) (Kd.R_far (p := ⟨gb137, 1, none⟩) (Kd.R_far (p := ⟨gb137, 0, none⟩) (Kd.R_types HO106.out BK137.out (by decide)) (fun _ hk => hk.2) (.int .i64 t128)) (fun _ hk => hk.2) (.slice Ao39 t129.length co39)) (fun _ hk => hk.2) (.slice Ao40 t132.length co40)) (fun _ h_ => h_.1))) hb); have n1_ := sA (Kd.R_below (sR (Kd.R_mono (Kd.R_far (p := ⟨gb137, 2, none⟩) (Kd.R_far (p := ⟨gb137, 1, none⟩) (Kd.R_far (p := ⟨gb137, 0, none⟩) (Kd.R_types HO109.out BK137.out (by decide)) (fun _ hk => hk.2) (.int .i64 t128)) (fun _ hk => hk.2) (.slice Ao39 t129.length co39)) (fun _ hk => hk.2) (.slice Ao40 t132.length co40)) (fun _ h_ => h_.1))) hb); have n2_ := sA (Kd.R_below (sR (Kd.R_mono (Kd.R_far (p := ⟨gb137, 2, none⟩) (Kd.R_far (p := ⟨gb137, 1, none⟩) (Kd.R_far (p := ⟨gb137, 0, none⟩) (Kd.R_types HO113.out BK137.out (by decide)) (fun _ hk => hk.2) (.int .i64 t128)) (fun _ hk => hk.2) (.slice Ao39 t129.length co39)) (fun _ hk => hk.2) (.slice Ao40 t132.length co40)) (fun _ h_ => h_.1))) hb); have n3_ := sA (Kd.R_below (sR (Kd.R_mono (Kd.R_far (p := ⟨gb137, 2, none⟩) (Kd.R_far (p := ⟨gb137, 1, none⟩) (Kd.R_far (p := ⟨gb137, 0, none⟩) (Kd.R_types HO116.out BK137.out (by decide)) (fun _ hk => hk.2) (.int .i64 t128)) (fun _ hk => hk.2) (.slice Ao39 t129.length co39)) (fun _ hk => hk.2) (.slice Ao40 t132.length co40)) (fun _ h_ => h_.1))) hb); have n4_ := sA (Kd.R_below (sR (Kd.R_mono (Kd.R_far (p := ⟨gb137, 2, none⟩) (Kd.R_far (p := ⟨gb137, 1, none⟩) (Kd.R_far (p := ⟨gb137, 0, none⟩) (Kd.R_types HO123.out BK137.out (by decide)) (fun _ hk => hk.2) (.int .i64 t128)) (fun _ hk => hk.2) (.slice Ao39 t129.length co39)) (fun _ hk => hk.2) (.slice Ao40 t132.length co40)) (fun _ h_ => h_.1))) hb); have n5_ := sA (Kd.R_below (sR (Kd.R_mono (Kd.R_far (p := ⟨gb137, 2, none⟩) (Kd.R_far (p := ⟨gb137, 1, none⟩) (Kd.R_far (p := ⟨gb137, 0, none⟩) (Kd.R_types HO126.out BK137.out (by decide)) (fun _ hk => hk.2) (.int .i64 t128)) (fun _ hk => hk.2) (.slice Ao39 t129.length co39)) (fun _ hk => hk.2) (.slice Ao40 t132.length co40)) (fun _ h_ => h_.1))) hb); have n6_ := sA (Kd.R_below (sR (Kd.R_mono (Kd.R_far (p := ⟨gb137, 2, none⟩) (Kd.R_far (p := ⟨gb137, 1, none⟩) (Kd.R_far (p := ⟨gb137, 0, none⟩) (Kd.R_types HO131.out BK137.out (by decide)) (fun _ hk => hk.2) (.int .i64 t128)) (fun _ hk => hk.2) (.slice Ao39 t129.length co39)) (fun _ hk => hk.2) (.slice Ao40 t132.length co40)) (fun _ h_ => h_.1))) hb); have n7_ := sA (Kd.R_below (sR (Kd.R_mono (Kd.R_far (p := ⟨gb137, 2, none⟩) (Kd.R_far (p := ⟨gb137, 1, none⟩) (Kd.R_far (p := ⟨gb137, 0, none⟩) (Kd.R_types HO134.out BK137.out (by decide)) (fun _ hk => hk.2) (.int .i64 t128)) (fun _ hk => hk.2) (.slice Ao39 t129.length co39)) (fun _ hk => hk.2) (.slice Ao40 t132.length co40)) (fun _ h_ => h_.1))) hb); have n8_ := sA (blk_below (g := gb101) (o := .cells #[.int .i64 a0_0, .slice A0_1 l0_1.length c0_1, .slice A0_2 l0_2.length c0_2] 25 (0, 0)) (by (with_reducible repeat first | apply blk_drewN | apply blk_drew | apply blk_alloc); refine blk_far ?_ NB101_137.out _; (with_reducible repeat first | apply blk_drewN | apply blk_drew | apply blk_alloc); refine blk_far ?_ NB101_137.out _; (with_reducible repeat first | apply blk_drewN | apply blk_drew | apply blk_alloc); refine blk_far ?_ NB101_137.out _; (with_reducible repeat first | apply blk_drewN | apply blk_drew | apply blk_alloc); exact BK101.out) hb); have n9_ := sA (blk_below (g := gb119) (o := .cells #[.int .i64 t110, .slice Ao23 t111.length co23, .slice Ao24 t114.length co24] 31 (0, 0)) (by (with_reducible repeat first | apply blk_drewN | apply blk_drew | apply blk_alloc); refine blk_far ?_ NB119_137.out _; (with_reducible repeat first | apply blk_drewN | apply blk_drew | apply blk_alloc); refine blk_far ?_ NB119_137.out _; (with_reducible repeat first | apply blk_drewN | apply blk_drew | apply blk_alloc); refine blk_far ?_ NB119_137.out _; (with_reducible repeat first | apply blk_drewN | apply blk_drew | apply blk_alloc); exact BK119.out) hb); have n10_ := sA (blk_below (g := gb127) (o := .cells #[.int .i64 t120, .slice Ao31 t121.length co31, .slice Ao32 t124.length co32] 31 (0, 0)) (by (with_reducible repeat first | apply blk_drewN | apply blk_drew | apply blk_alloc); refine blk_far ?_ NB127_137.out _; (with_reducible repeat first | apply blk_drewN | apply blk_drew | apply blk_alloc); refine blk_far ?_ NB127_137.out _; (with_reducible repeat first | apply blk_drewN | apply blk_drew | apply blk_alloc); refine blk_far ?_ NB127_137.out _; (with_reducible repeat first | apply blk_drewN | apply blk_drew | apply blk_alloc); exact BK127.out) hb); have n11_ := sA (blk_below (g := gb137) (o := .cells #[.int .i64 t128, .slice Ao39 t129.length co39, .slice Ao40 t132.length co40] 31 (0, 0)) (by (with_reducible repeat first | apply blk_drewN | apply blk_drew | apply blk_alloc); refine blk_put (cs := #[.int .i64 t128, .slice Ao39 t129.length co39, .slice none 0 0]) ?_ 2 _ rfl; (with_reducible repeat first | apply blk_drewN | apply blk_drew | apply blk_alloc); refine blk_put (cs := #[.int .i64 t128, .slice none 0 0, .slice none 0 0]) ?_ 1 _ rfl; (with_reducible repeat first | apply blk_drewN | apply blk_drew | apply blk_alloc); refine blk_put (cs := #[.int .i64 0, .slice none 0 0, .slice none 0 0]) ?_ 0 _ rfl; (with_reducible repeat first | apply blk_drewN | apply blk_drew | apply blk_alloc); exact BK137.out) hb); have n12_ := sA (below_step (by repeat (first | (with_reducible first | exact HB.out | apply below_alloc | apply pw_below_drewN | apply below_drew1 | refine below_set ?_ (Aside0.out (by assumption))) | exact HB.out)) hb); clear HO106; clear HO109; clear HO113; clear HO116; clear HO123; clear HO126; clear HO131; clear HO134; clear BK101; clear BK119; clear BK127; clear BK137; clear HB; have HO106 := n0_; have HO109 := n1_; have HO113 := n2_; have HO116 := n3_; have HO123 := n4_; have HO126 := n5_; have HO131 := n6_; have HO134 := n7_; have BK101 := n8_; have BK119 := n9_; have BK127 := n10_; have BK137 := n11_; have HB := n12_; clear n0_ n1_ n2_ n3_ n4_ n5_ n6_ n7_ n8_ n9_ n10_ n11_ n12_; (try clear hb); (try clear hb2); (try clear hk); (try clear hi)))
    go_meet
    case rel => exact ⟨_, (true), (by first | rfl | (simp; done) | (simp [*]; done)), H', ⟨by first | omega | exact Nat.le_refl _⟩, ⟨sR (Kd.R_mono HO113.out (fun _ hk => ⟨hk.1.2, hk.2⟩))⟩, ⟨sR (Kd.R_mono HO116.out (fun _ hk => ⟨hk.1.2, hk.2⟩))⟩, ⟨sR (Kd.R_mono HO123.out (fun _ hk => ⟨hk.1.2, hk.2⟩))⟩, ⟨sR (Kd.R_mono HO126.out (fun _ hk => ⟨hk.1.2, hk.2⟩))⟩, ⟨sR (Kd.R_mono HO131.out (fun _ hk => ⟨hk.1.2, hk.2⟩))⟩, ⟨sR (Kd.R_mono HO134.out (fun _ hk => ⟨hk.1.2, hk.2⟩))⟩, ⟨sB BK101.out⟩, ⟨sB BK119.out⟩, ⟨sB BK127.out⟩, ⟨sB BK137.out⟩, ⟨by repeat (first | (with_reducible first | exact HB.out | apply below_alloc | apply pw_below_drewN | apply below_drew1 | refine below_set ?_ GE101.out | refine below_set ?_ GE119.out | refine below_set ?_ GE127.out | refine below_set ?_ GE137.out) | exact HB.out)⟩⟩
  case rest =>
   clear HC11
   try clear c1
   try clear c2
   try clear p2
   try clear c3
   try clear c3b0
   try clear c4
   try clear c5
   try clear c6
   try clear c8
   try clear c10
   try clear c13
   try clear c17
   try clear c18
   try clear c21
   try clear c28
   try clear c29
   try clear c35
   try clear c36
   try clear c37
   try clear c42
   try clear c43
   try clear c43b0
   try clear c43b1
   try clear c44
   try clear c45
   try clear c46
   try clear c48
   try clear c49
   try clear c52
   try clear c53
   try clear c54
   try clear c56
   try clear c57
   try clear c60
   try clear c61
   try clear c62
   try clear c64
   try clear c65
   try clear hcz13_0
   try clear hcz13_1
   try clear hcz13_2
   try clear hcz15_0
   try clear hcz15_1
   try clear hcz15_2
   try clear hcz22_0
   try clear hcz22_1
   try clear hcz22_2
   try clear hcz25_0
   try clear hcz25_1
   try clear hcz25_2
   try clear hcz30_0
   try clear hcz30_1
   try clear hcz30_2
   try clear hcz38_0
   try clear hcz38_1
   try clear hcz38_2
   try clear hcz47_0
   try clear hcz47_1
   try clear hcz47_2
   try clear hcz50_0
   try clear hcz50_1
   try clear hcz50_2
   try clear hcz55_0
   try clear hcz55_1
   try clear hcz55_2
   try clear hcz58_0
   try clear hcz58_1
   try clear hcz58_2
   try clear hcz5_0
   try clear hcz5_1
   try clear hcz5_2
   try clear hcz63_0
   try clear hcz63_1
   try clear hcz63_2
   try clear hcz66_0
   try clear hcz66_1
   try clear hcz66_2
   try clear hfz13_0
   try clear hfz13_1
   try clear hfz13_2
   try clear hfz15_0
   try clear hfz15_1
   try clear hfz15_2
   try clear hfz22_0
   try clear hfz22_1
   try clear hfz22_2
   try clear hfz25_0
   try clear hfz25_1
   try clear hfz25_2
   try clear hfz30_0
   try clear hfz30_1
   try clear hfz30_2
   try clear hfz38_0
   try clear hfz38_1
   try clear hfz38_2
   try clear hfz47_0
   try clear hfz47_1
   try clear hfz47_2
   try clear hfz50_0
   try clear hfz50_1
   try clear hfz50_2
   try clear hfz55_0
   try clear hfz55_1
   try clear hfz55_2
   try clear hfz58_0
   try clear hfz58_1
   try clear hfz58_2
   try clear hfz5_0
   try clear hfz5_1
   try clear hfz5_2
   try clear hfz63_0
   try clear hfz63_1
   try clear hfz63_2
   try clear hfz66_0
   try clear hfz66_1
   try clear hfz66_2
   obtain ⟨kq, x50_10, rfl, HA, HJ10, HO_120001, HO_120002, HO_128001, HO_128002, HO_138001, HO_138002, BK101, BK119, BK127, BK137, HB⟩ := hcut
   cases kq with
   | zero => exact absurd HA.out (by simp [laws_FnExactSendNext.j0])
   | succ kj10 =>
    have H := HA.out
    clear HA
    simp only [laws_FnExactSendNext.j0] at H
    by_cases c68 : x50_10 = true
    ·subst c68
     have H1 : (some false) = some r := by rw [if_pos rfl] at H; exact H
     clear H
     have H := H1
     clear H1
     obtain rfl := Option.some.inj H
     go_wp2
     go_ret
     exact ⟨by first | rfl | (simp [errW_none, errW_some] <;> rfl) | (simp [*, errW_none, errW_some] <;> rfl), by repeat (first | (with_reducible first | exact HB.out | apply below_alloc | apply pw_below_drewN | apply below_drew1 | refine below_set ?_ GE101.out | refine below_set ?_ GE119.out | refine below_set ?_ GE127.out | refine below_set ?_ GE137.out) | exact HB.out)⟩
    ·replace c68 := Bool.eq_false_iff.mpr c68
     subst c68
     have H1 : ((laws_toSender.f kj10 a0_0 l0_1 l0_2).bind fun bt139 => ((laws_eqSender.f kj10 t120 t121 t124 bt139.1 bt139.2.1 bt139.2.2).bind fun t146 => (if t146 = true then ((laws_markSender.f kj10 t120 t121 t124 1).bind fun bt147 => (if bt147.1 < 0 then (laws_FnExactSendNext.j1 kj10 t117 t118 true a0_0 l0_1 l0_2 t110 t111 t114 t128 t129 t132) else ((laws_eqSender.f kj10 t128 t129 t132 t110 t111 t114).bind fun t150 => (if t150 = true then (if t135 = t117 then (laws_FnExactSendNext.j1 kj10 t117 t118 (t136 != t118) a0_0 l0_1 l0_2 t110 t111 t114 t128 t129 t132) else (laws_FnExactSendNext.j1 kj10 t117 t118 true a0_0 l0_1 l0_2 t110 t111 t114 t128 t129 t132)) else (laws_FnExactSendNext.j1 kj10 t117 t118 true a0_0 l0_1 l0_2 t110 t111 t114 t128 t129 t132))))) else (some false)))) = some r := by rw [if_neg (show ¬ (false = true) by decide)] at H; exact H
     clear H
     have H := H1
     clear H1
     replace H := Option.bind_eq_some_iff.mp H
     obtain ⟨⟨t139, t140, t143⟩, A690, H⟩ := H
     replace H : ((laws_eqSender.f kj10 t120 t121 t124 t139 t140 t143).bind fun t146 => (if t146 = true then ((laws_markSender.f kj10 t120 t121 t124 1).bind fun bt147 => (if bt147.1 < 0 then (laws_FnExactSendNext.j1 kj10 t117 t118 true a0_0 l0_1 l0_2 t110 t111 t114 t128 t129 t132) else ((laws_eqSender.f kj10 t128 t129 t132 t110 t111 t114).bind fun t150 => (if t150 = true then (if t135 = t117 then (laws_FnExactSendNext.j1 kj10 t117 t118 (t136 != t118) a0_0 l0_1 l0_2 t110 t111 t114 t128 t129 t132) else (laws_FnExactSendNext.j1 kj10 t117 t118 true a0_0 l0_1 l0_2 t110 t111 t114 t128 t129 t132)) else (laws_FnExactSendNext.j1 kj10 t117 t118 true a0_0 l0_1 l0_2 t110 t111 t114 t128 t129 t132))))) else (some false))) = some r := H
     have A69 := sA A690
     clear A690
     replace H := Option.bind_eq_some_iff.mp H
     obtain ⟨t146, A700, H⟩ := H
     replace H : (if t146 = true then ((laws_markSender.f kj10 t120 t121 t124 1).bind fun bt147 => (if bt147.1 < 0 then (laws_FnExactSendNext.j1 kj10 t117 t118 true a0_0 l0_1 l0_2 t110 t111 t114 t128 t129 t132) else ((laws_eqSender.f kj10 t128 t129 t132 t110 t111 t114).bind fun t150 => (if t150 = true then (if t135 = t117 then (laws_FnExactSendNext.j1 kj10 t117 t118 (t136 != t118) a0_0 l0_1 l0_2 t110 t111 t114 t128 t129 t132) else (laws_FnExactSendNext.j1 kj10 t117 t118 true a0_0 l0_1 l0_2 t110 t111 t114 t128 t129 t132)) else (laws_FnExactSendNext.j1 kj10 t117 t118 true a0_0 l0_1 l0_2 t110 t111 t114 t128 t129 t132))))) else (some false)) = some r := H
     have A70 := sA A700
     clear A700
     by_cases c71 : t146 = true
     ·subst c71
      have H1 : ((laws_markSender.f kj10 t120 t121 t124 1).bind fun bt147 => (if bt147.1 < 0 then (laws_FnExactSendNext.j1 kj10 t117 t118 true a0_0 l0_1 l0_2 t110 t111 t114 t128 t129 t132) else ((laws_eqSender.f kj10 t128 t129 t132 t110 t111 t114).bind fun t150 => (if t150 = true then (if t135 = t117 then (laws_FnExactSendNext.j1 kj10 t117 t118 (t136 != t118) a0_0 l0_1 l0_2 t110 t111 t114 t128 t129 t132) else (laws_FnExactSendNext.j1 kj10 t117 t118 true a0_0 l0_1 l0_2 t110 t111 t114 t128 t129 t132)) else (laws_FnExactSendNext.j1 kj10 t117 t118 true a0_0 l0_1 l0_2 t110 t111 t114 t128 t129 t132))))) = some r := by rw [if_pos rfl] at H; exact H
      clear H
      have H := H1
      clear H1
      replace H := Option.bind_eq_some_iff.mp H
      obtain ⟨⟨t147, t148, t149⟩, A720, H⟩ := H
      replace H : (if t147 < 0 then (laws_FnExactSendNext.j1 kj10 t117 t118 true a0_0 l0_1 l0_2 t110 t111 t114 t128 t129 t132) else ((laws_eqSender.f kj10 t128 t129 t132 t110 t111 t114).bind fun t150 => (if t150 = true then (if t135 = t117 then (laws_FnExactSendNext.j1 kj10 t117 t118 (t136 != t118) a0_0 l0_1 l0_2 t110 t111 t114 t128 t129 t132) else (laws_FnExactSendNext.j1 kj10 t117 t118 true a0_0 l0_1 l0_2 t110 t111 t114 t128 t129 t132)) else (laws_FnExactSendNext.j1 kj10 t117 t118 true a0_0 l0_1 l0_2 t110 t111 t114 t128 t129 t132)))) = some r := H
      have A72 := sA A720
      clear A720
      have HC73 := sA H
      clear H
      try go_wp2
      have n0_ := sA (Kd.R_drew HO_120001.out)
      have n1_ := sA (Kd.R_drew HO_120002.out)
      have n2_ := sA (Kd.R_drew HO_128001.out)
      have n3_ := sA (Kd.R_drew HO_128002.out)
      have n4_ := sA (Kd.R_drew HO_138001.out)
      have n5_ := sA (Kd.R_drew HO_138002.out)
      have n6_ := sA (blk_drew BK101.out)
      have n7_ := sA (blk_drew BK119.out)
      have n8_ := sA (blk_drew BK127.out)
      have n9_ := sA (blk_drew BK137.out)
      have n10_ := sA (below_drew1 HB.out)
      clear HO_120001
      clear HO_120002
      clear HO_128001
      clear HO_128002
      clear HO_138001
      clear HO_138002
      clear BK101
      clear BK119
      clear BK127
      clear BK137
      clear HB
      have HO_120001 := n0_
      have HO_120002 := n1_
      have HO_128001 := n2_
      have HO_128002 := n3_
      have HO_138001 := n4_
      have HO_138002 := n5_
      have BK101 := n6_
      have BK119 := n7_
      have BK127 := n8_
      have BK137 := n9_
      have HB := n10_
      clear n0_ n1_ n2_ n3_ n4_ n5_ n6_ n7_ n8_ n9_ n10_
      refine start_ (n := 5) (S := fun w' => w'.cell? ⟨gb127, 0, none⟩ = some (.int .i64 t120) ∧ w'.cell? ⟨gb127, 1, none⟩ = some (.slice Ao31 t121.length co31) ∧ w'.cell? ⟨gb127, 2, none⟩ = some (.slice Ao32 t124.length co32) ∧ w'.cell? ⟨gb101, 0, none⟩ = some (.int .i64 a0_0) ∧ w'.cell? ⟨gb101, 1, none⟩ = some (.slice A0_1 l0_1.length c0_1) ∧ w'.cell? ⟨gb101, 2, none⟩ = some (.slice A0_2 l0_2.length c0_2)) (ds := []) #[false, false, false, false, false] (by kernel_rfl) rfl rfl ⟨(blk_cell BK127.out 0).trans rfl, (blk_cell BK127.out 1).trans rfl, (blk_cell BK127.out 2).trans rfl, (blk_cell BK101.out 0).trans rfl, (blk_cell BK101.out 1).trans rfl, (blk_cell BK101.out 2).trans rfl⟩ (fun hHeld => ?_)
      generalize wc.drew = w74 at HO_120001 HO_120002 HO_128001 HO_128002 HO_138001 HO_138002 BK101 BK119 BK127 BK137 HB hHeld ⊢
      refine take_ (i := 0) (N := some 51) (v := ?_) (a' := ?_) #[true, false, false, false, false] rfl rfl (by kernel_rfl) (fun _ _ _ h => h) (Or.inl ⟨by rfl, ?_⟩) hHeld ?_ ?_
      rotate_left
      ·rintro w' ⟨s0, s1, s2, s3, s4, s5⟩
       go_simp
       with_reducible rfl
      rotate_left
      ·simp only [Act.put, List.setIfInBounds_toArray, List.set_cons_zero, List.set_cons_succ, i64_w, i32_w]
       rfl
      refine take_ (i := 1) (N := some 52) (v := ?_) (a' := ?_) #[true, true, false, false, false] rfl rfl (by kernel_rfl) (fun _ _ _ h => h) (Or.inl ⟨by rfl, ?_⟩) hHeld ?_ ?_
      rotate_left
      ·rintro w' ⟨s0, s1, s2, s3, s4, s5⟩
       go_simp
       with_reducible rfl
      rotate_left
      ·simp only [Act.put, List.setIfInBounds_toArray, List.set_cons_zero, List.set_cons_succ, i64_w, i32_w]
       rfl
      refine one_ (i := 2) (N := some 53) #[true, true, true, false, false] rfl rfl (by kernel_rfl) (by decide) (fun K hK => ?_)
      refine goes_ Try.func10 (by kernel_rfl) rfl #[.agg #[.int .i64 a0_0, .slice A0_1 l0_1.length c0_1, .slice A0_2 l0_2.length c0_2]] (by rfl) rfl rfl (by (try simp only [List.map_toArray, List.map_cons, List.map_nil]); first | done | rfl | (simp only [List.length_drop, List.length_take]; rfl)) ?_
      with_reducible refine (laws_toSender.calls kj10 a0_0 _ _ l0_1 _ _ l0_2 t139 t140 t143 _ ?side1 ?side2 ?side3 ?side4 A69.out).mono ?_
      (case side1 => repeat (first | exact (Kd.C_below HR0_1.out HB.out) | (with_reducible refine Kd.C_alloc ?_ _) | (with_reducible refine Kd.C_drewN ?_ _) | (with_reducible refine Kd.C_drew ?_)))
      (case side2 => exact HC0_1.out)
      (case side3 => repeat (first | exact (Kd.C_below HR0_2.out HB.out) | (with_reducible refine Kd.C_alloc ?_ _) | (with_reducible refine Kd.C_drewN ?_ _) | (with_reducible refine Kd.C_drew ?_)))
      (case side4 => exact HC0_2.out)
      rintro e w75 ⟨v141, v144, rfl, ho0, ho1, hb⟩
      refine ⟨_, rfl, ?_⟩
      have n0_ := sA (Kd.R_elder' (sR HO_120001.out) (Kd.R_base ho0) hb)
      have n1_ := sA (Kd.R_elder' (sR HO_120002.out) (Kd.R_base ho1) hb)
      have n2_ := sA (Kd.R_elder' (sR HO_128001.out) (Kd.R_base ho0) hb)
      have n3_ := sA (Kd.R_elder' (sR HO_128002.out) (Kd.R_base ho1) hb)
      have n4_ := sA (Kd.R_elder' (sR HO_138001.out) (Kd.R_base ho0) hb)
      have n5_ := sA (Kd.R_elder' (sR HO_138002.out) (Kd.R_base ho1) hb)
      have n6_ := sA (Kd.R_lower (Kd.R_new' (Kd.R_new' (Kd.R_new' ho0 (Kd.R_lt (sR HO_120001.out))) (Kd.R_lt (sR HO_128001.out))) (Kd.R_lt (sR HO_138001.out))) (below_size (by repeat (first | (with_reducible first | exact HB.out | apply below_alloc | apply pw_below_drewN | apply below_drew1 | refine below_set ?_ (Aside0.out (by assumption))) | exact HB.out))))
      have n7_ := sA (Kd.R_lower (Kd.R_new' (Kd.R_new' (Kd.R_new' ho1 (Kd.R_lt (sR HO_120002.out))) (Kd.R_lt (sR HO_128002.out))) (Kd.R_lt (sR HO_138002.out))) (below_size (by repeat (first | (with_reducible first | exact HB.out | apply below_alloc | apply pw_below_drewN | apply below_drew1 | refine below_set ?_ (Aside0.out (by assumption))) | exact HB.out))))
      have n8_ := sA (blk_below (g := gb101) (o := .cells #[.int .i64 a0_0, .slice A0_1 l0_1.length c0_1, .slice A0_2 l0_2.length c0_2] 25 (0, 0)) (sB BK101.out) hb)
      have n9_ := sA (blk_below (g := gb119) (o := .cells #[.int .i64 t110, .slice Ao23 t111.length co23, .slice Ao24 t114.length co24] 31 (0, 0)) (sB BK119.out) hb)
      have n10_ := sA (blk_below (g := gb127) (o := .cells #[.int .i64 t120, .slice Ao31 t121.length co31, .slice Ao32 t124.length co32] 31 (0, 0)) (sB BK127.out) hb)
      have n11_ := sA (blk_below (g := gb137) (o := .cells #[.int .i64 t128, .slice Ao39 t129.length co39, .slice Ao40 t132.length co40] 31 (0, 0)) (sB BK137.out) hb)
      have n12_ := sA (below_step (by repeat (first | (with_reducible first | exact HB.out | apply below_alloc | apply pw_below_drewN | apply below_drew1 | refine below_set ?_ (Aside0.out (by assumption))) | exact HB.out)) hb)
      clear HO_120001
      clear HO_120002
      clear HO_128001
      clear HO_128002
      clear HO_138001
      clear HO_138002
      clear BK101
      clear BK119
      clear BK127
      clear BK137
      clear HB
      have HO_120001 := n0_
      have HO_120002 := n1_
      have HO_128001 := n2_
      have HO_128002 := n3_
      have HO_138001 := n4_
      have HO_138002 := n5_
      have HO142 := n6_
      have HO145 := n7_
      have BK101 := n8_
      have BK119 := n9_
      have BK127 := n10_
      have BK137 := n11_
      have HB := n12_
      clear n0_ n1_ n2_ n3_ n4_ n5_ n6_ n7_ n8_ n9_ n10_ n11_ n12_
      (try clear hb)
      (try clear hb2)
      (try clear hk)
      (try clear hi)
      (try clear ho0)
      (try clear ho1)
      obtain ⟨Ao76, co76, eo76⟩ := Kd.R_slice HO142.out
      (first | subst eo76 | (injection eo76 with f1_ f2_ f3_; have f4_ := f1_.symm; have f5_ := f3_.symm; clear f1_ f2_ f3_; subst f4_; subst f5_))
      obtain ⟨Ao77, co77, eo77⟩ := Kd.R_slice HO145.out
      (first | subst eo77 | (injection eo77 with f1_ f2_ f3_; have f4_ := f1_.symm; have f5_ := f3_.symm; clear f1_ f2_ f3_; subst f4_; subst f5_))
      refine hK.out _ _ ⟨(blk_cell BK127.out 0).trans rfl, (blk_cell BK127.out 1).trans rfl, (blk_cell BK127.out 2).trans rfl, (blk_cell BK101.out 0).trans rfl, (blk_cell BK101.out 1).trans rfl, (blk_cell BK101.out 2).trans rfl⟩ (fun hHeld => ?_)
      clear hK K
      refine norm_ (a' := ?_) ?_ ?_
      rotate_left
      ·show Act.put _ (some 53) _ = _
       simp only [Act.put, List.setIfInBounds_toArray, List.set_cons_zero, List.set_cons_succ, i64_w, i32_w]
       rfl
      refine one_ (i := 3) (N := some 54) #[true, true, true, true, false] rfl rfl (by kernel_rfl) (by decide) (fun K hK => ?_)
      refine goes_ Try.func13 (by kernel_rfl) rfl #[.agg #[.int .i64 t120, .slice Ao31 t121.length co31, .slice Ao32 t124.length co32], .agg #[.int .i64 t139, .slice Ao76 t140.length co76, .slice Ao77 t143.length co77]] (by rfl) rfl rfl (by (try simp only [List.map_toArray, List.map_cons, List.map_nil]); first | done | rfl | (simp only [List.length_drop, List.length_take]; rfl)) ?_
      with_reducible refine (laws_eqSender.calls kj10 t120 _ _ t121 _ _ t124 t139 _ _ t140 _ _ t143 true _ ?side1 ?side2 ?side3 ?side4 ?side5 ?side6 ?side7 ?side8 A70.out).mono ?_
      (case side1 => repeat (first | exact (Kd.R_reads' HO_128001.out).2.2 | (with_reducible refine Kd.C_alloc ?_ _) | (with_reducible refine Kd.C_drewN ?_ _) | (with_reducible refine Kd.C_drew ?_)))
      (case side2 => exact (Kd.R_reads' HO_128001.out).2.1)
      (case side3 => repeat (first | exact (Kd.R_reads' HO_128002.out).2.2 | (with_reducible refine Kd.C_alloc ?_ _) | (with_reducible refine Kd.C_drewN ?_ _) | (with_reducible refine Kd.C_drew ?_)))
      (case side4 => exact (Kd.R_reads' HO_128002.out).2.1)
      (case side5 => repeat (first | exact (Kd.R_reads' HO142.out).2.2 | (with_reducible refine Kd.C_alloc ?_ _) | (with_reducible refine Kd.C_drewN ?_ _) | (with_reducible refine Kd.C_drew ?_)))
      (case side6 => exact (Kd.R_reads' HO142.out).2.1)
      (case side7 => repeat (first | exact (Kd.R_reads' HO145.out).2.2 | (with_reducible refine Kd.C_alloc ?_ _) | (with_reducible refine Kd.C_drewN ?_ _) | (with_reducible refine Kd.C_drew ?_)))
      (case side8 => exact (Kd.R_reads' HO145.out).2.1)
      rintro e w78 ⟨rfl, hb⟩
      refine ⟨_, rfl, ?_⟩
      have n0_ := sA (Kd.R_below (sR HO_120001.out) hb)
      have n1_ := sA (Kd.R_below (sR HO_120002.out) hb)
      have n2_ := sA (Kd.R_below (sR HO_128001.out) hb)
      have n3_ := sA (Kd.R_below (sR HO_128002.out) hb)
      have n4_ := sA (Kd.R_below (sR HO_138001.out) hb)
      have n5_ := sA (Kd.R_below (sR HO_138002.out) hb)
      have n6_ := sA (Kd.R_below (sR HO142.out) hb)
      have n7_ := sA (Kd.R_below (sR HO145.out) hb)
      have n8_ := sA (blk_below (g := gb101) (o := .cells #[.int .i64 a0_0, .slice A0_1 l0_1.length c0_1, .slice A0_2 l0_2.length c0_2] 25 (0, 0)) (sB BK101.out) hb)
      have n9_ := sA (blk_below (g := gb119) (o := .cells #[.int .i64 t110, .slice Ao23 t111.length co23, .slice Ao24 t114.length co24] 31 (0, 0)) (sB BK119.out) hb)
      have n10_ := sA (blk_below (g := gb127) (o := .cells #[.int .i64 t120, .slice Ao31 t121.length co31, .slice Ao32 t124.length co32] 31 (0, 0)) (sB BK127.out) hb)
      have n11_ := sA (blk_below (g := gb137) (o := .cells #[.int .i64 t128, .slice Ao39 t129.length co39, .slice Ao40 t132.length co40] 31 (0, 0)) (sB BK137.out) hb)
      have n12_ := sA (below_step (by repeat (first | (with_reducible first | exact HB.out | apply below_alloc | apply pw_below_drewN | apply below_drew1 | refine below_set ?_ (Aside0.out (by assumption))) | exact HB.out)) hb)
      clear HO_120001
      clear HO_120002
      clear HO_128001
      clear HO_128002
      clear HO_138001
      clear HO_138002
      clear HO142
      clear HO145
      clear BK101
      clear BK119
      clear BK127
      clear BK137
      clear HB
      have HO_120001 := n0_
      have HO_120002 := n1_
      have HO_128001 := n2_
      have HO_128002 := n3_
      have HO_138001 := n4_
      have HO_138002 := n5_
      have HO142 := n6_
      have HO145 := n7_
      have BK101 := n8_
      have BK119 := n9_
      have BK127 := n10_
      have BK137 := n11_
      have HB := n12_
      clear n0_ n1_ n2_ n3_ n4_ n5_ n6_ n7_ n8_ n9_ n10_ n11_ n12_
      (try clear hb)
      (try clear hb2)
      (try clear hk)
      (try clear hi)
      refine hK.out _ _ ⟨(blk_cell BK127.out 0).trans rfl, (blk_cell BK127.out 1).trans rfl, (blk_cell BK127.out 2).trans rfl, (blk_cell BK101.out 0).trans rfl, (blk_cell BK101.out 1).trans rfl, (blk_cell BK101.out 2).trans rfl⟩ (fun hHeld => ?_)
      clear hK K
      refine norm_ (a' := ?_) ?_ ?_
      rotate_left
      ·show Act.put _ (some 54) _ = _
       simp only [Act.put, List.setIfInBounds_toArray, List.set_cons_zero, List.set_cons_succ, i64_w, i32_w]
       rfl
      refine pure_ (i := 4) (N := some 55) (v := ?_) (a' := ?_) #[true, true, true, true, true] rfl rfl (by kernel_rfl) (fun _ _ _ h => h) (Or.inl ⟨by rfl, ?_⟩) ?_ ?_
      rotate_left
      ·intro w'
       go_simp
       with_reducible rfl
      rotate_left
      ·simp only [Act.put, List.setIfInBounds_toArray, List.set_cons_zero, List.set_cons_succ, i64_w, i32_w]
       rfl
      refine done_ (by kernel_rfl) ?_
      have hnb79 := NB127_101.out
      have hnc79 := NB101_127.out
      have hnb80 := NB127_119.out
      have hnc80 := NB119_127.out
      have hnb81 := NB127_137.out
      have hnc81 := NB137_127.out
      have hcz82_0 : w78.cell? ⟨gb127, 0, none⟩ = some (.int .i64 t120) := (blk_cell BK127.out 0).trans rfl
      have hcz82_1 : w78.cell? ⟨gb127, 1, none⟩ = some (.slice Ao31 t121.length co31) := (blk_cell BK127.out 1).trans rfl
      have hcz82_2 : w78.cell? ⟨gb127, 2, none⟩ = some (.slice Ao32 t124.length co32) := (blk_cell BK127.out 2).trans rfl
      have hfz82_0 := blk_frozen BK127.out 0
      have hfz82_1 := blk_frozen BK127.out 1
      have hfz82_2 := blk_frozen BK127.out 2
      go_upto_region 14 with (first | ((with_reducible refine gate_callee (f := 14) rfl ?_); refine goesL_ (some 58) rfl rfl Try.func14 (by kernel_rfl) rfl #[.agg #[.int .i64 t120, .slice Ao31 t121.length co31, .slice Ao32 t124.length co32], .int .i64 1] rfl (by (try simp only [List.map_toArray, List.map_cons, List.map_nil]); first | done | rfl | (simp only [List.length_drop, List.length_take]; rfl)) ?_; (with_reducible refine (laws_markSender.calls kj10 t120 (fun k_ => some k_ = (.slice Ao31 t121.length co31 : Value).ownBlock) (.slice Ao31 t121.length co31) t121 (fun k_ => some k_ = (.slice Ao32 t124.length co32 : Value).ownBlock) (.slice Ao32 t124.length co32) t124 1 t147 t148 t149 w _ ?side1 ?side2 ?side3 A72.out).mono ?_); (case side1 => repeat (first | (with_reducible first | exact HB.out | apply below_alloc | apply pw_below_drewN | apply below_drew1 | refine below_set ?_ GE101.out | refine below_set ?_ GE119.out | refine below_set ?_ GE127.out | refine below_set ?_ GE137.out) | exact HB.out)); (case side2 => exact Kd.R_tight rfl HO_128001.out); (case side3 => exact Kd.R_tight rfl HO_128002.out); rintro e w83 ⟨rfl, hy0, hy1, hb, hkp⟩; refine ⟨_, rfl, ?_⟩; have n0_ := sA (Kd.R_mono (ok' := fun k_ => some k_ ≠ (.slice Ao31 t121.length co31 : Value).ownBlock ∧ some k_ ≠ (.slice Ao39 t129.length co39 : Value).ownBlock ∧ some k_ ≠ (.slice Ao76 t140.length co76 : Value).ownBlock) (Kd.R_keptB ((Kd.R_apart' HO_120001.out (Kd.R_typed HO_128002.out) (by decide))) hkp (fun k_ hk_ hs_ => Or.elim hs_ (fun e_ => (hk_.1.1.1) e_) (fun e_ => (hk_.2) e_))) (fun k_ hk_ => ⟨hk_.1.1.1.1, hk_.1.1.1.2, hk_.1.1.2⟩)); have n1_ := sA (Kd.R_mono (ok' := fun k_ => some k_ ≠ (.slice Ao32 t124.length co32 : Value).ownBlock ∧ some k_ ≠ (.slice Ao40 t132.length co40 : Value).ownBlock ∧ some k_ ≠ (.slice Ao77 t143.length co77 : Value).ownBlock) (Kd.R_keptB ((Kd.R_apart' HO_120002.out (Kd.R_typed HO_128001.out) (by decide))) hkp (fun k_ hk_ hs_ => Or.elim hs_ (fun e_ => (hk_.2) e_) (fun e_ => (hk_.1.1.1) e_))) (fun k_ hk_ => ⟨hk_.1.1.1.1, hk_.1.1.1.2, hk_.1.1.2⟩)); have n2_ := sA (Kd.R_reok rfl hy0 (fun k_ e_ => HO_128001.out.1 k_ e_)); have n3_ := sA (Kd.R_reok rfl hy1 (fun k_ e_ => HO_128002.out.1 k_ e_)); have n4_ := sA (Kd.R_mono (ok' := fun k_ => some k_ ≠ (.slice Ao23 t111.length co23 : Value).ownBlock ∧ some k_ ≠ (.slice Ao31 t121.length co31 : Value).ownBlock ∧ some k_ ≠ (.slice Ao76 t140.length co76 : Value).ownBlock) (Kd.R_keptB ((Kd.R_apart' HO_138001.out (Kd.R_typed HO_128002.out) (by decide))) hkp (fun k_ hk_ hs_ => Or.elim hs_ (fun e_ => (hk_.1.1.2) e_) (fun e_ => (hk_.2) e_))) (fun k_ hk_ => ⟨hk_.1.1.1.1, hk_.1.1.1.2, hk_.1.1.2⟩)); have n5_ := sA (Kd.R_mono (ok' := fun k_ => some k_ ≠ (.slice Ao24 t114.length co24 : Value).ownBlock ∧ some k_ ≠ (.slice Ao32 t124.length co32 : Value).ownBlock ∧ some k_ ≠ (.slice Ao77 t143.length co77 : Value).ownBlock) (Kd.R_keptB ((Kd.R_apart' HO_138002.out (Kd.R_typed HO_128001.out) (by decide))) hkp (fun k_ hk_ hs_ => Or.elim hs_ (fun e_ => (hk_.2) e_) (fun e_ => (hk_.1.1.2) e_))) (fun k_ hk_ => ⟨hk_.1.1.1.1, hk_.1.1.1.2, hk_.1.1.2⟩)); have n6_ := sA (blk_kept (sB BK101.out) hkp (fun hs_ => Or.elim hs_ (fun e_ => (fun e_ => (Kd.R_ne HO_128001.out BK101.out (by decide)) e_) e_) (fun e_ => (fun e_ => (Kd.R_ne HO_128002.out BK101.out (by decide)) e_) e_))); have n7_ := sA (blk_kept (sB BK119.out) hkp (fun hs_ => Or.elim hs_ (fun e_ => (fun e_ => (Kd.R_ne HO_128001.out BK119.out (by decide)) e_) e_) (fun e_ => (fun e_ => (Kd.R_ne HO_128002.out BK119.out (by decide)) e_) e_))); have n8_ := sA (blk_kept (sB BK127.out) hkp (fun hs_ => Or.elim hs_ (fun e_ => (fun e_ => (Kd.R_ne HO_128001.out BK127.out (by decide)) e_) e_) (fun e_ => (fun e_ => (Kd.R_ne HO_128002.out BK127.out (by decide)) e_) e_))); have n9_ := sA (blk_kept (sB BK137.out) hkp (fun hs_ => Or.elim hs_ (fun e_ => (fun e_ => (Kd.R_ne HO_128001.out BK137.out (by decide)) e_) e_) (fun e_ => (fun e_ => (Kd.R_ne HO_128002.out BK137.out (by decide)) e_) e_))); have n10_ := sA (Kd.R_mono (ok' := fun k_ => some k_ ≠ (.slice Ao23 t111.length co23 : Value).ownBlock ∧ some k_ ≠ (.slice Ao31 t121.length co31 : Value).ownBlock ∧ some k_ ≠ (.slice Ao39 t129.length co39 : Value).ownBlock) (Kd.R_keptB ((Kd.R_apart' HO142.out (Kd.R_typed HO_128002.out) (by decide))) hkp (fun k_ hk_ hs_ => Or.elim hs_ (fun e_ => (hk_.1.1.2) e_) (fun e_ => (hk_.2) e_))) (fun k_ hk_ => ⟨hk_.1.1.1.1.2, hk_.1.1.1.2, hk_.1.1.2⟩)); have n11_ := sA (Kd.R_mono (ok' := fun k_ => some k_ ≠ (.slice Ao24 t114.length co24 : Value).ownBlock ∧ some k_ ≠ (.slice Ao32 t124.length co32 : Value).ownBlock ∧ some k_ ≠ (.slice Ao40 t132.length co40 : Value).ownBlock) (Kd.R_keptB ((Kd.R_apart' HO145.out (Kd.R_typed HO_128001.out) (by decide))) hkp (fun k_ hk_ hs_ => Or.elim hs_ (fun e_ => (hk_.2) e_) (fun e_ => (hk_.1.1.2) e_))) (fun k_ hk_ => ⟨hk_.1.1.1.1.2, hk_.1.1.1.2, hk_.1.1.2⟩)); have n12_ := sA (hb); clear HO_120001; clear HO_120002; clear HO_128001; clear HO_128002; clear HO_138001; clear HO_138002; clear BK101; clear BK119; clear BK127; clear BK137; clear HO142; clear HO145; clear HB; have HO_120001 := n0_; have HO_120002 := n1_; have HO_128001 := n2_; have HO_128002 := n3_; have HO_138001 := n4_; have HO_138002 := n5_; have BK101 := n6_; have BK119 := n7_; have BK127 := n8_; have BK137 := n9_; have HO142 := n10_; have HO145 := n11_; have HB := n12_; clear n0_ n1_ n2_ n3_ n4_ n5_ n6_ n7_ n8_ n9_ n10_ n11_ n12_; (try clear hb); (try clear hkp); (try clear hy0); (try clear hy1)))
      (try simp only [Act.put, List.setIfInBounds_toArray, List.set_cons_zero, List.set_cons_succ])
      go_cut [76] (fun v76 wc => ∃ (kq : Nat) (x76_72 : Bool), v76 = .bool x76_72 ∧ Aside0 (laws_FnExactSendNext.j1 kq t117 t118 x76_72 a0_0 l0_1 l0_2 t110 t111 t114 t128 t129 t132 = some r) ∧ Aside0 (kq ≤ kj10) ∧ Aside0 (Kd.R k59 59 wc w.heap.size (fun k_ => some k_ ≠ ((.slice Ao31 t121.length co31) : Value).ownBlock ∧ some k_ ≠ ((.slice Ao39 t129.length co39) : Value).ownBlock) (.slice Ao23 t111.length co23) t111) ∧ Aside0 (Kd.R (Kd.int .i64) 3 wc w.heap.size (fun k_ => some k_ ≠ ((.slice Ao32 t124.length co32) : Value).ownBlock ∧ some k_ ≠ ((.slice Ao40 t132.length co40) : Value).ownBlock) (.slice Ao24 t114.length co24) t114) ∧ Aside0 (Kd.R k59 59 wc w.heap.size (fun k_ => some k_ ≠ ((.slice Ao23 t111.length co23) : Value).ownBlock ∧ some k_ ≠ ((.slice Ao39 t129.length co39) : Value).ownBlock) (.slice Ao31 t121.length co31) t148) ∧ Aside0 (Kd.R (Kd.int .i64) 3 wc w.heap.size (fun k_ => some k_ ≠ ((.slice Ao24 t114.length co24) : Value).ownBlock ∧ some k_ ≠ ((.slice Ao40 t132.length co40) : Value).ownBlock) (.slice Ao32 t124.length co32) t149) ∧ Aside0 (Kd.R k59 59 wc w.heap.size (fun k_ => some k_ ≠ ((.slice Ao23 t111.length co23) : Value).ownBlock ∧ some k_ ≠ ((.slice Ao31 t121.length co31) : Value).ownBlock) (.slice Ao39 t129.length co39) t129) ∧ Aside0 (Kd.R (Kd.int .i64) 3 wc w.heap.size (fun k_ => some k_ ≠ ((.slice Ao24 t114.length co24) : Value).ownBlock ∧ some k_ ≠ ((.slice Ao32 t124.length co32) : Value).ownBlock) (.slice Ao40 t132.length co40) t132) ∧ Aside0 (wc.heap[gb101]? = some (.cells #[.int .i64 a0_0, (.slice A0_1 l0_1.length c0_1), (.slice A0_2 l0_2.length c0_2)] 25 (0, 0))) ∧ Aside0 (wc.heap[gb119]? = some (.cells #[.int .i64 t110, (.slice Ao23 t111.length co23), (.slice Ao24 t114.length co24)] 31 (0, 0))) ∧ Aside0 (wc.heap[gb127]? = some (.cells #[.int .i64 t120, (.slice Ao31 t121.length co31), (.slice Ao32 t124.length co32)] 31 (0, 0))) ∧ Aside0 (wc.heap[gb137]? = some (.cells #[.int .i64 t128, (.slice Ao39 t129.length co39), (.slice Ao40 t132.length co40)] 31 (0, 0))) ∧ Aside0 (Below w.heap.size w wc))
      case first =>
       have H := HC73.out
       clear HC73
       by_cases c84 : t147 < 0
       ·rw [if_pos c84] at H
        have c84b0 : decide (t147 < 0) = true := decide_eq_true c84
        clear c84
        (first | rw [c84b0] | (simp only [i64_w, i32_w]; rw [c84b0]) | skip)
        have H' := sA H
        clear H
        go_wp2
        go_meet
        case rel => exact ⟨_, (true), (by first | rfl | (simp; done) | (simp [*]; done)), H', ⟨by have := HJ10.out; first | omega | exact Nat.le_refl _⟩, ⟨sR (Kd.R_mono HO_120001.out (fun _ hk => ⟨hk.1, hk.2.1⟩))⟩, ⟨sR (Kd.R_mono HO_120002.out (fun _ hk => ⟨hk.1, hk.2.1⟩))⟩, ⟨sR (Kd.R_mono HO_128001.out (fun _ hk => ⟨hk.1.1, hk.1.2⟩))⟩, ⟨sR (Kd.R_mono HO_128002.out (fun _ hk => ⟨hk.1.1, hk.1.2⟩))⟩, ⟨sR (Kd.R_mono HO_138001.out (fun _ hk => ⟨hk.1, hk.2.1⟩))⟩, ⟨sR (Kd.R_mono HO_138002.out (fun _ hk => ⟨hk.1, hk.2.1⟩))⟩, ⟨sB BK101.out⟩, ⟨sB BK119.out⟩, ⟨sB BK127.out⟩, ⟨sB BK137.out⟩, ⟨by repeat (first | (with_reducible first | exact HB.out | apply below_alloc | apply pw_below_drewN | apply below_drew1 | refine below_set ?_ GE101.out | refine below_set ?_ GE119.out | refine below_set ?_ GE127.out | refine below_set ?_ GE137.out) | exact HB.out)⟩⟩
       ·rw [if_neg c84] at H
        have c84b0 : decide (t147 < 0) = false := decide_eq_false c84
        clear c84
        (first | rw [c84b0] | (simp only [i64_w, i32_w]; rw [c84b0]) | skip)
        replace H := Option.bind_eq_some_iff.mp H
        obtain ⟨t150, A850, H⟩ := H
        replace H : (if t150 = true then (if t135 = t117 then (laws_FnExactSendNext.j1 kj10 t117 t118 (t136 != t118) a0_0 l0_1 l0_2 t110 t111 t114 t128 t129 t132) else (laws_FnExactSendNext.j1 kj10 t117 t118 true a0_0 l0_1 l0_2 t110 t111 t114 t128 t129 t132)) else (laws_FnExactSendNext.j1 kj10 t117 t118 true a0_0 l0_1 l0_2 t110 t111 t114 t128 t129 t132)) = some r := H
        have A85 := sA A850
        clear A850
        by_cases c86 : t150 = true
        ·subst c86
         have H1 : (if t135 = t117 then (laws_FnExactSendNext.j1 kj10 t117 t118 (t136 != t118) a0_0 l0_1 l0_2 t110 t111 t114 t128 t129 t132) else (laws_FnExactSendNext.j1 kj10 t117 t118 true a0_0 l0_1 l0_2 t110 t111 t114 t128 t129 t132)) = some r := by rw [if_pos rfl] at H; exact H
         clear H
         have H := H1
         clear H1
         by_cases c87 : t135 = t117
         ·rw [if_pos c87] at H
          have c87b0 : (t135 == t117) = true := beq_iff_eq.mpr c87
          have c87b1 : (t135 != t117) = false := bne_eq_false_iff_eq.mpr c87
          clear c87
          have H' := sA H
          clear H
          have hnb88 := NB137_101.out
          have hnc88 := NB101_137.out
          have hnb89 := NB137_119.out
          have hnc89 := NB119_137.out
          have hnb90 := NB137_127.out
          have hnc90 := NB127_137.out
          have hcz91_0 : w83.cell? ⟨gb137, 0, none⟩ = some (.int .i64 t128) := (blk_cell BK137.out 0).trans rfl
          have hcz91_1 : w83.cell? ⟨gb137, 1, none⟩ = some (.slice Ao39 t129.length co39) := (blk_cell BK137.out 1).trans rfl
          have hcz91_2 : w83.cell? ⟨gb137, 2, none⟩ = some (.slice Ao40 t132.length co40) := (blk_cell BK137.out 2).trans rfl
          have hfz91_0 := blk_frozen BK137.out 0
          have hfz91_1 := blk_frozen BK137.out 1
          have hfz91_2 := blk_frozen BK137.out 2
          have hnb92 := NB119_101.out
          have hnc92 := NB101_119.out
          have hnb93 := NB119_127.out
          have hnc93 := NB127_119.out
          have hcz94_0 : w83.cell? ⟨gb119, 0, none⟩ = some (.int .i64 t110) := (blk_cell BK119.out 0).trans rfl
          have hcz94_1 : w83.cell? ⟨gb119, 1, none⟩ = some (.slice Ao23 t111.length co23) := (blk_cell BK119.out 1).trans rfl
          have hcz94_2 : w83.cell? ⟨gb119, 2, none⟩ = some (.slice Ao24 t114.length co24) := (blk_cell BK119.out 2).trans rfl
          have hfz94_0 := blk_frozen BK119.out 0
          have hfz94_1 := blk_frozen BK119.out 1
          have hfz94_2 := blk_frozen BK119.out 2
          go_wp2_with (first | (go_at_call 13; (with_reducible refine (laws_eqSender.calls kj10 t128 _ _ t129 _ _ t132 t110 _ _ t111 _ _ t114 true _ ?side1 ?side2 ?side3 ?side4 ?side5 ?side6 ?side7 ?side8 A85.out).mono ?_); (case side1 => repeat (first | exact (Kd.R_reads' HO_138001.out).2.2 | (with_reducible refine Kd.C_alloc ?_ _) | (with_reducible refine Kd.C_drewN ?_ _) | (with_reducible refine Kd.C_drew ?_))); (case side2 => exact (Kd.R_reads' HO_138001.out).2.1); (case side3 => repeat (first | exact (Kd.R_reads' HO_138002.out).2.2 | (with_reducible refine Kd.C_alloc ?_ _) | (with_reducible refine Kd.C_drewN ?_ _) | (with_reducible refine Kd.C_drew ?_))); (case side4 => exact (Kd.R_reads' HO_138002.out).2.1); (case side5 => repeat (first | exact (Kd.R_reads' HO_120001.out).2.2 | (with_reducible refine Kd.C_alloc ?_ _) | (with_reducible refine Kd.C_drewN ?_ _) | (with_reducible refine Kd.C_drew ?_))); (case side6 => exact (Kd.R_reads' HO_120001.out).2.1); (case side7 => repeat (first | exact (Kd.R_reads' HO_120002.out).2.2 | (with_reducible refine Kd.C_alloc ?_ _) | (with_reducible refine Kd.C_drewN ?_ _) | (with_reducible refine Kd.C_drew ?_))); (case side8 => exact (Kd.R_reads' HO_120002.out).2.1); rintro e w95 ⟨rfl, hb⟩; have n0_ := sA (Kd.R_below (sR HO_120001.out) hb); have n1_ := sA (Kd.R_below (sR HO_120002.out) hb); have n2_ := sA (Kd.R_below (sR HO_128001.out) hb); have n3_ := sA (Kd.R_below (sR HO_128002.out) hb); have n4_ := sA (Kd.R_below (sR HO_138001.out) hb); have n5_ := sA (Kd.R_below (sR HO_138002.out) hb); have n6_ := sA (Kd.R_below (sR HO142.out) hb); have n7_ := sA (Kd.R_below (sR HO145.out) hb); have n8_ := sA (blk_below (g := gb101) (o := .cells #[.int .i64 a0_0, .slice A0_1 l0_1.length c0_1, .slice A0_2 l0_2.length c0_2] 25 (0, 0)) (sB BK101.out) hb); have n9_ := sA (blk_below (g := gb119) (o := .cells #[.int .i64 t110, .slice Ao23 t111.length co23, .slice Ao24 t114.length co24] 31 (0, 0)) (sB BK119.out) hb); have n10_ := sA (blk_below (g := gb127) (o := .cells #[.int .i64 t120, .slice Ao31 t121.length co31, .slice Ao32 t124.length co32] 31 (0, 0)) (sB BK127.out) hb); have n11_ := sA (blk_below (g := gb137) (o := .cells #[.int .i64 t128, .slice Ao39 t129.length co39, .slice Ao40 t132.length co40] 31 (0, 0)) (sB BK137.out) hb); have n12_ := sA (below_step (by repeat (first | (with_reducible first | exact HB.out | apply below_alloc | apply pw_below_drewN | apply below_drew1 | refine below_set ?_ (Aside0.out (by assumption))) | exact HB.out)) hb); clear HO_120001; clear HO_120002; clear HO_128001; clear HO_128002; clear HO_138001; clear HO_138002; clear HO142; clear HO145; clear BK101; clear BK119; clear BK127; clear BK137; clear HB; have HO_120001 := n0_; have HO_120002 := n1_; have HO_128001 := n2_; have HO_128002 := n3_; have HO_138001 := n4_; have HO_138002 := n5_; have HO142 := n6_; have HO145 := n7_; have BK101 := n8_; have BK119 := n9_; have BK127 := n10_; have BK137 := n11_; have HB := n12_; clear n0_ n1_ n2_ n3_ n4_ n5_ n6_ n7_ n8_ n9_ n10_ n11_ n12_; (try clear hb); (try clear hb2); (try clear hk); (try clear hi)))
          go_meet
          case rel => exact ⟨_, ((t136 != t118)), (by first | rfl | (simp; done) | (simp [*]; done)), H', ⟨by have := HJ10.out; first | omega | exact Nat.le_refl _⟩, ⟨sR (Kd.R_mono HO_120001.out (fun _ hk => ⟨hk.1, hk.2.1⟩))⟩, ⟨sR (Kd.R_mono HO_120002.out (fun _ hk => ⟨hk.1, hk.2.1⟩))⟩, ⟨sR (Kd.R_mono HO_128001.out (fun _ hk => ⟨hk.1.1, hk.1.2⟩))⟩, ⟨sR (Kd.R_mono HO_128002.out (fun _ hk => ⟨hk.1.1, hk.1.2⟩))⟩, ⟨sR (Kd.R_mono HO_138001.out (fun _ hk => ⟨hk.1, hk.2.1⟩))⟩, ⟨sR (Kd.R_mono HO_138002.out (fun _ hk => ⟨hk.1, hk.2.1⟩))⟩, ⟨sB BK101.out⟩, ⟨sB BK119.out⟩, ⟨sB BK127.out⟩, ⟨sB BK137.out⟩, ⟨by repeat (first | (with_reducible first | exact HB.out | apply below_alloc | apply pw_below_drewN | apply below_drew1 | refine below_set ?_ GE101.out | refine below_set ?_ GE119.out | refine below_set ?_ GE127.out | refine below_set ?_ GE137.out) | exact HB.out)⟩⟩
         ·rw [if_neg c87] at H
          have c87b0 : (t135 == t117) = false := beq_eq_false_iff_ne.mpr c87
          have c87b1 : (t135 != t117) = true := bne_iff_ne.mpr c87
          have H' := sA H
          clear H
          have hnb96 := NB137_101.out
          have hnc96 := NB101_137.out
          have hnb97 := NB137_119.out
          have hnc97 := NB119_137.out
          have hnb98 := NB137_127.out
          have hnc98 := NB127_137.out
          have hcz99_0 : w83.cell? ⟨gb137, 0, none⟩ = some (.int .i64 t128) := (blk_cell BK137.out 0).trans rfl
          have hcz99_1 : w83.cell? ⟨gb137, 1, none⟩ = some (.slice Ao39 t129.length co39) := (blk_cell BK137.out 1).trans rfl
          have hcz99_2 : w83.cell? ⟨gb137, 2, none⟩ = some (.slice Ao40 t132.length co40) := (blk_cell BK137.out 2).trans rfl
          have hfz99_0 := blk_frozen BK137.out 0
          have hfz99_1 := blk_frozen BK137.out 1
          have hfz99_2 := blk_frozen BK137.out 2
          have hnb100 := NB119_101.out
          have hnc100 := NB101_119.out
          have hnb101 := NB119_127.out
          have hnc101 := NB127_119.out
          have hcz102_0 : w83.cell? ⟨gb119, 0, none⟩ = some (.int .i64 t110) := (blk_cell BK119.out 0).trans rfl
          have hcz102_1 : w83.cell? ⟨gb119, 1, none⟩ = some (.slice Ao23 t111.length co23) := (blk_cell BK119.out 1).trans rfl
          have hcz102_2 : w83.cell? ⟨gb119, 2, none⟩ = some (.slice Ao24 t114.length co24) := (blk_cell BK119.out 2).trans rfl
          have hfz102_0 := blk_frozen BK119.out 0
          have hfz102_1 := blk_frozen BK119.out 1
          have hfz102_2 := blk_frozen BK119.out 2
          go_wp2_with (first | (go_at_call 13; (with_reducible refine (laws_eqSender.calls kj10 t128 _ _ t129 _ _ t132 t110 _ _ t111 _ _ t114 true _ ?side1 ?side2 ?side3 ?side4 ?side5 ?side6 ?side7 ?side8 A85.out).mono ?_); (case side1 => repeat (first | exact (Kd.R_reads' HO_138001.out).2.2 | (with_reducible refine Kd.C_alloc ?_ _) | (with_reducible refine Kd.C_drewN ?_ _) | (with_reducible refine Kd.C_drew ?_))); (case side2 => exact (Kd.R_reads' HO_138001.out).2.1); (case side3 => repeat (first | exact (Kd.R_reads' HO_138002.out).2.2 | (with_reducible refine Kd.C_alloc ?_ _) | (with_reducible refine Kd.C_drewN ?_ _) | (with_reducible refine Kd.C_drew ?_))); (case side4 => exact (Kd.R_reads' HO_138002.out).2.1); (case side5 => repeat (first | exact (Kd.R_reads' HO_120001.out).2.2 | (with_reducible refine Kd.C_alloc ?_ _) | (with_reducible refine Kd.C_drewN ?_ _) | (with_reducible refine Kd.C_drew ?_))); (case side6 => exact (Kd.R_reads' HO_120001.out).2.1); (case side7 => repeat (first | exact (Kd.R_reads' HO_120002.out).2.2 | (with_reducible refine Kd.C_alloc ?_ _) | (with_reducible refine Kd.C_drewN ?_ _) | (with_reducible refine Kd.C_drew ?_))); (case side8 => exact (Kd.R_reads' HO_120002.out).2.1); rintro e w103 ⟨rfl, hb⟩; have n0_ := sA (Kd.R_below (sR HO_120001.out) hb); have n1_ := sA (Kd.R_below (sR HO_120002.out) hb); have n2_ := sA (Kd.R_below (sR HO_128001.out) hb); have n3_ := sA (Kd.R_below (sR HO_128002.out) hb); have n4_ := sA (Kd.R_below (sR HO_138001.out) hb); have n5_ := sA (Kd.R_below (sR HO_138002.out) hb); have n6_ := sA (Kd.R_below (sR HO142.out) hb); have n7_ := sA (Kd.R_below (sR HO145.out) hb); have n8_ := sA (blk_below (g := gb101) (o := .cells #[.int .i64 a0_0, .slice A0_1 l0_1.length c0_1, .slice A0_2 l0_2.length c0_2] 25 (0, 0)) (sB BK101.out) hb); have n9_ := sA (blk_below (g := gb119) (o := .cells #[.int .i64 t110, .slice Ao23 t111.length co23, .slice Ao24 t114.length co24] 31 (0, 0)) (sB BK119.out) hb); have n10_ := sA (blk_below (g := gb127) (o := .cells #[.int .i64 t120, .slice Ao31 t121.length co31, .slice Ao32 t124.length co32] 31 (0, 0)) (sB BK127.out) hb); have n11_ := sA (blk_below (g := gb137) (o := .cells #[.int .i64 t128, .slice Ao39 t129.length co39, .slice Ao40 t132.length co40] 31 (0, 0)) (sB BK137.out) hb); have n12_ := sA (below_step (by repeat (first | (with_reducible first | exact HB.out | apply below_alloc | apply pw_below_drewN | apply below_drew1 | refine below_set ?_ (Aside0.out (by assumption))) | exact HB.out)) hb); clear HO_120001; clear HO_120002; clear HO_128001; clear HO_128002; clear HO_138001; clear HO_138002; clear HO142; clear HO145; clear BK101; clear BK119; clear BK127; clear BK137; clear HB; have HO_120001 := n0_; have HO_120002 := n1_; have HO_128001 := n2_; have HO_128002 := n3_; have HO_138001 := n4_; have HO_138002 := n5_; have HO142 := n6_; have HO145 := n7_; have BK101 := n8_; have BK119 := n9_; have BK127 := n10_; have BK137 := n11_; have HB := n12_; clear n0_ n1_ n2_ n3_ n4_ n5_ n6_ n7_ n8_ n9_ n10_ n11_ n12_; (try clear hb); (try clear hb2); (try clear hk); (try clear hi)))
          go_meet
          case rel => exact ⟨_, (true), (by first | rfl | (simp; done) | (simp [*]; done)), H', ⟨by have := HJ10.out; first | omega | exact Nat.le_refl _⟩, ⟨sR (Kd.R_mono HO_120001.out (fun _ hk => ⟨hk.1, hk.2.1⟩))⟩, ⟨sR (Kd.R_mono HO_120002.out (fun _ hk => ⟨hk.1, hk.2.1⟩))⟩, ⟨sR (Kd.R_mono HO_128001.out (fun _ hk => ⟨hk.1.1, hk.1.2⟩))⟩, ⟨sR (Kd.R_mono HO_128002.out (fun _ hk => ⟨hk.1.1, hk.1.2⟩))⟩, ⟨sR (Kd.R_mono HO_138001.out (fun _ hk => ⟨hk.1, hk.2.1⟩))⟩, ⟨sR (Kd.R_mono HO_138002.out (fun _ hk => ⟨hk.1, hk.2.1⟩))⟩, ⟨sB BK101.out⟩, ⟨sB BK119.out⟩, ⟨sB BK127.out⟩, ⟨sB BK137.out⟩, ⟨by repeat (first | (with_reducible first | exact HB.out | apply below_alloc | apply pw_below_drewN | apply below_drew1 | refine below_set ?_ GE101.out | refine below_set ?_ GE119.out | refine below_set ?_ GE127.out | refine below_set ?_ GE137.out) | exact HB.out)⟩⟩
        ·replace c86 := Bool.eq_false_iff.mpr c86
         subst c86
         have H1 : (laws_FnExactSendNext.j1 kj10 t117 t118 true a0_0 l0_1 l0_2 t110 t111 t114 t128 t129 t132) = some r := by rw [if_neg (show ¬ (false = true) by decide)] at H; exact H
         clear H
         have H := H1
         clear H1
         have H' := sA H
         clear H
         have hnb104 := NB137_101.out
         have hnc104 := NB101_137.out
         have hnb105 := NB137_119.out
         have hnc105 := NB119_137.out
         have hnb106 := NB137_127.out
         have hnc106 := NB127_137.out
         have hcz107_0 : w83.cell? ⟨gb137, 0, none⟩ = some (.int .i64 t128) := (blk_cell BK137.out 0).trans rfl
         have hcz107_1 : w83.cell? ⟨gb137, 1, none⟩ = some (.slice Ao39 t129.length co39) := (blk_cell BK137.out 1).trans rfl
         have hcz107_2 : w83.cell? ⟨gb137, 2, none⟩ = some (.slice Ao40 t132.length co40) := (blk_cell BK137.out 2).trans rfl
         have hfz107_0 := blk_frozen BK137.out 0
         have hfz107_1 := blk_frozen BK137.out 1
         have hfz107_2 := blk_frozen BK137.out 2
         have hnb108 := NB119_101.out
         have hnc108 := NB101_119.out
         have hnb109 := NB119_127.out
         have hnc109 := NB127_119.out
         have hcz110_0 : w83.cell? ⟨gb119, 0, none⟩ = some (.int .i64 t110) := (blk_cell BK119.out 0).trans rfl
         have hcz110_1 : w83.cell? ⟨gb119, 1, none⟩ = some (.slice Ao23 t111.length co23) := (blk_cell BK119.out 1).trans rfl
         have hcz110_2 : w83.cell? ⟨gb119, 2, none⟩ = some (.slice Ao24 t114.length co24) := (blk_cell BK119.out 2).trans rfl
         have hfz110_0 := blk_frozen BK119.out 0
         have hfz110_1 := blk_frozen BK119.out 1
         have hfz110_2 := blk_frozen BK119.out 2
         go_wp2_with (first | (go_at_call 13; (with_reducible refine (laws_eqSender.calls kj10 t128 _ _ t129 _ _ t132 t110 _ _ t111 _ _ t114 false _ ?side1 ?side2 ?side3 ?side4 ?side5 ?side6 ?side7 ?side8 A85.out).mono ?_); (case side1 => repeat (first | exact (Kd.R_reads' HO_138001.out).2.2 | (with_reducible refine Kd.C_alloc ?_ _) | (with_reducible refine Kd.C_drewN ?_ _) | (with_reducible refine Kd.C_drew ?_))); (case side2 => exact (Kd.R_reads' HO_138001.out).2.1); (case side3 => repeat (first | exact (Kd.R_reads' HO_138002.out).2.2 | (with_reducible refine Kd.C_alloc ?_ _) | (with_reducible refine Kd.C_drewN ?_ _) | (with_reducible refine Kd.C_drew ?_))); (case side4 => exact (Kd.R_reads' HO_138002.out).2.1); (case side5 => repeat (first | exact (Kd.R_reads' HO_120001.out).2.2 | (with_reducible refine Kd.C_alloc ?_ _) | (with_reducible refine Kd.C_drewN ?_ _) | (with_reducible refine Kd.C_drew ?_))); (case side6 => exact (Kd.R_reads' HO_120001.out).2.1); (case side7 => repeat (first | exact (Kd.R_reads' HO_120002.out).2.2 | (with_reducible refine Kd.C_alloc ?_ _) | (with_reducible refine Kd.C_drewN ?_ _) | (with_reducible refine Kd.C_drew ?_))); (case side8 => exact (Kd.R_reads' HO_120002.out).2.1); rintro e w111 ⟨rfl, hb⟩; have n0_ := sA (Kd.R_below (sR HO_120001.out) hb); have n1_ := sA (Kd.R_below (sR HO_120002.out) hb); have n2_ := sA (Kd.R_below (sR HO_128001.out) hb); have n3_ := sA (Kd.R_below (sR HO_128002.out) hb); have n4_ := sA (Kd.R_below (sR HO_138001.out) hb); have n5_ := sA (Kd.R_below (sR HO_138002.out) hb); have n6_ := sA (Kd.R_below (sR HO142.out) hb); have n7_ := sA (Kd.R_below (sR HO145.out) hb); have n8_ := sA (blk_below (g := gb101) (o := .cells #[.int .i64 a0_0, .slice A0_1 l0_1.length c0_1, .slice A0_2 l0_2.length c0_2] 25 (0, 0)) (sB BK101.out) hb); have n9_ := sA (blk_below (g := gb119) (o := .cells #[.int .i64 t110, .slice Ao23 t111.length co23, .slice Ao24 t114.length co24] 31 (0, 0)) (sB BK119.out) hb); have n10_ := sA (blk_below (g := gb127) (o := .cells #[.int .i64 t120, .slice Ao31 t121.length co31, .slice Ao32 t124.length co32] 31 (0, 0)) (sB BK127.out) hb); have n11_ := sA (blk_below (g := gb137) (o := .cells #[.int .i64 t128, .slice Ao39 t129.length co39, .slice Ao40 t132.length co40] 31 (0, 0)) (sB BK137.out) hb); have n12_ := sA (below_step (by repeat (first | (with_reducible first | exact HB.out | apply below_alloc | apply pw_below_drewN | apply below_drew1 | refine below_set ?_ (Aside0.out (by assumption))) | exact HB.out)) hb); clear HO_120001; clear HO_120002; clear HO_128001; clear HO_128002; clear HO_138001; clear HO_138002; clear HO142; clear HO145; clear BK101; clear BK119; clear BK127; clear BK137; clear HB; have HO_120001 := n0_; have HO_120002 := n1_; have HO_128001 := n2_; have HO_128002 := n3_; have HO_138001 := n4_; have HO_138002 := n5_; have HO142 := n6_; have HO145 := n7_; have BK101 := n8_; have BK119 := n9_; have BK127 := n10_; have BK137 := n11_; have HB := n12_; clear n0_ n1_ n2_ n3_ n4_ n5_ n6_ n7_ n8_ n9_ n10_ n11_ n12_; (try clear hb); (try clear hb2); (try clear hk); (try clear hi)))
         go_meet
         case rel => exact ⟨_, (true), (by first | rfl | (simp; done) | (simp [*]; done)), H', ⟨by have := HJ10.out; first | omega | exact Nat.le_refl _⟩, ⟨sR (Kd.R_mono HO_120001.out (fun _ hk => ⟨hk.1, hk.2.1⟩))⟩, ⟨sR (Kd.R_mono HO_120002.out (fun _ hk => ⟨hk.1, hk.2.1⟩))⟩, ⟨sR (Kd.R_mono HO_128001.out (fun _ hk => ⟨hk.1.1, hk.1.2⟩))⟩, ⟨sR (Kd.R_mono HO_128002.out (fun _ hk => ⟨hk.1.1, hk.1.2⟩))⟩, ⟨sR (Kd.R_mono HO_138001.out (fun _ hk => ⟨hk.1, hk.2.1⟩))⟩, ⟨sR (Kd.R_mono HO_138002.out (fun _ hk => ⟨hk.1, hk.2.1⟩))⟩, ⟨sB BK101.out⟩, ⟨sB BK119.out⟩, ⟨sB BK127.out⟩, ⟨sB BK137.out⟩, ⟨by repeat (first | (with_reducible first | exact HB.out | apply below_alloc | apply pw_below_drewN | apply below_drew1 | refine below_set ?_ GE101.out | refine below_set ?_ GE119.out | refine below_set ?_ GE127.out | refine below_set ?_ GE137.out) | exact HB.out)⟩⟩
      case rest =>
       clear HC73
       try clear c1
       try clear c2
       try clear p2
       try clear c3
       try clear c3b0
       try clear c4
       try clear c5
       try clear c6
       try clear c7
       try clear c8
       try clear c9
       try clear c10
       try clear c13
       try clear c14
       try clear c17
       try clear c18
       try clear c21
       try clear c28
       try clear c29
       try clear c35
       try clear c36
       try clear c37
       try clear c42
       try clear c43
       try clear c43b0
       try clear c43b1
       try clear c44
       try clear c45
       try clear c46
       try clear c48
       try clear c49
       try clear c52
       try clear c53
       try clear c54
       try clear c56
       try clear c57
       try clear c60
       try clear c61
       try clear c62
       try clear c64
       try clear c65
       try clear c68
       try clear c71
       try clear c79
       try clear c80
       try clear c81
       try clear c84
       try clear c84b0
       try clear c86
       try clear c87
       try clear c87b0
       try clear c87b1
       try clear c88
       try clear c89
       try clear c90
       try clear c92
       try clear c93
       try clear c96
       try clear c97
       try clear c98
       try clear c100
       try clear c101
       try clear c104
       try clear c105
       try clear c106
       try clear c108
       try clear c109
       try clear hcz102_0
       try clear hcz102_1
       try clear hcz102_2
       try clear hcz107_0
       try clear hcz107_1
       try clear hcz107_2
       try clear hcz110_0
       try clear hcz110_1
       try clear hcz110_2
       try clear hcz13_0
       try clear hcz13_1
       try clear hcz13_2
       try clear hcz15_0
       try clear hcz15_1
       try clear hcz15_2
       try clear hcz22_0
       try clear hcz22_1
       try clear hcz22_2
       try clear hcz25_0
       try clear hcz25_1
       try clear hcz25_2
       try clear hcz30_0
       try clear hcz30_1
       try clear hcz30_2
       try clear hcz38_0
       try clear hcz38_1
       try clear hcz38_2
       try clear hcz47_0
       try clear hcz47_1
       try clear hcz47_2
       try clear hcz50_0
       try clear hcz50_1
       try clear hcz50_2
       try clear hcz55_0
       try clear hcz55_1
       try clear hcz55_2
       try clear hcz58_0
       try clear hcz58_1
       try clear hcz58_2
       try clear hcz5_0
       try clear hcz5_1
       try clear hcz5_2
       try clear hcz63_0
       try clear hcz63_1
       try clear hcz63_2
       try clear hcz66_0
       try clear hcz66_1
       try clear hcz66_2
       try clear hcz82_0
       try clear hcz82_1
       try clear hcz82_2
       try clear hcz91_0
       try clear hcz91_1
       try clear hcz91_2
       try clear hcz94_0
       try clear hcz94_1
       try clear hcz94_2
       try clear hcz99_0
       try clear hcz99_1
       try clear hcz99_2
       try clear hfz102_0
       try clear hfz102_1
       try clear hfz102_2
       try clear hfz107_0
       try clear hfz107_1
       try clear hfz107_2
       try clear hfz110_0
       try clear hfz110_1
       try clear hfz110_2
       try clear hfz13_0
       try clear hfz13_1
       try clear hfz13_2
       try clear hfz15_0
       try clear hfz15_1
       try clear hfz15_2
       try clear hfz22_0
       try clear hfz22_1
       try clear hfz22_2
       try clear hfz25_0
       try clear hfz25_1
       try clear hfz25_2
       try clear hfz30_0
       try clear hfz30_1
       try clear hfz30_2
       try clear hfz38_0
       try clear hfz38_1
       try clear hfz38_2
       try clear hfz47_0
       try clear hfz47_1
       try clear hfz47_2
       try clear hfz50_0
       try clear hfz50_1
       try clear hfz50_2
       try clear hfz55_0
       try clear hfz55_1
       try clear hfz55_2
       try clear hfz58_0
       try clear hfz58_1
       try clear hfz58_2
       try clear hfz5_0
       try clear hfz5_1
       try clear hfz5_2
       try clear hfz63_0
       try clear hfz63_1
       try clear hfz63_2
       try clear hfz66_0
       try clear hfz66_1
       try clear hfz66_2
       try clear hfz82_0
       try clear hfz82_1
       try clear hfz82_2
       try clear hfz91_0
       try clear hfz91_1
       try clear hfz91_2
       try clear hfz94_0
       try clear hfz94_1
       try clear hfz94_2
       try clear hfz99_0
       try clear hfz99_1
       try clear hfz99_2
       try clear p2
       obtain ⟨kq, x76_72, rfl, HA, HJ72, HO_120001, HO_120002, HO_128001, HO_128002, HO_138001, HO_138002, BK101, BK119, BK127, BK137, HB⟩ := hcut
       have hl128001_72 := (Kd.R_reads' HO_128001.out).1
       rw [hl128001_72] at HO_128001
       (try simp only [hl128001_72])
       (try simp only [hl128001_72] at BK101)
       (try simp only [hl128001_72] at BK119)
       (try simp only [hl128001_72] at BK127)
       (try simp only [hl128001_72] at BK137)
       (try simp only [hl128001_72] at HO_120001)
       (try simp only [hl128001_72] at HO_120002)
       (try simp only [hl128001_72] at HO_128002)
       (try simp only [hl128001_72] at HO_138001)
       (try simp only [hl128001_72] at HO_138002)
       have hl128002_72 := (Kd.R_reads' HO_128002.out).1
       rw [hl128002_72] at HO_128002
       (try simp only [hl128002_72])
       (try simp only [hl128002_72] at BK101)
       (try simp only [hl128002_72] at BK119)
       (try simp only [hl128002_72] at BK127)
       (try simp only [hl128002_72] at BK137)
       (try simp only [hl128002_72] at HO_120001)
       (try simp only [hl128002_72] at HO_120002)
       (try simp only [hl128002_72] at HO_128001)
       (try simp only [hl128002_72] at HO_138001)
       (try simp only [hl128002_72] at HO_138002)
       cases kq with
       | zero => exact absurd HA.out (by simp [laws_FnExactSendNext.j1])
       | succ kj72 =>
        have H := HA.out
        clear HA
        simp only [laws_FnExactSendNext.j1] at H
        by_cases c112 : x76_72 = true
        ·subst c112
         have H1 : (some false) = some r := by rw [if_pos rfl] at H; exact H
         clear H
         have H := H1
         clear H1
         obtain rfl := Option.some.inj H
         go_wp2
         go_ret
         exact ⟨by first | rfl | (simp [errW_none, errW_some] <;> rfl) | (simp [*, errW_none, errW_some] <;> rfl), by repeat (first | (with_reducible first | exact HB.out | apply below_alloc | apply pw_below_drewN | apply below_drew1 | refine below_set ?_ GE101.out | refine below_set ?_ GE119.out | refine below_set ?_ GE127.out | refine below_set ?_ GE137.out) | exact HB.out)⟩
        ·replace c112 := Bool.eq_false_iff.mpr c112
         subst c112
         have H1 : ((laws_markSender.f kj72 t128 t129 t132 1).bind fun bt151 => ((laws_heldSender.f kj72 t128 bt151.2.1 bt151.2.2 1).bind fun t154 => (if t154 < 0 then (some false) else (if t154 = bt151.1 then ((laws_toSender.f kj72 a0_0 l0_1 l0_2).bind fun bt155 => ((impl_SendNext.f kj72 bt155.1 bt155.2.1 bt155.2.2).bind fun bt162 => ((laws_eqSender.f kj72 bt162.1 bt162.2.1 bt162.2.2.1 t110 t111 t114).bind fun t172 => (if t172 = true then (if bt162.2.2.2.1 = t117 then (laws_FnExactSendNext.j2 kj72 bt151.1 (bt162.2.2.2.2 != t118) t128 bt151.2.1 bt151.2.2) else (laws_FnExactSendNext.j2 kj72 bt151.1 true t128 bt151.2.1 bt151.2.2)) else (laws_FnExactSendNext.j2 kj72 bt151.1 true t128 bt151.2.1 bt151.2.2))))) else (some false))))) = some r := by rw [if_neg (show ¬ (false = true) by decide)] at H; exact H
         clear H
         have H := H1
         clear H1
         replace H := Option.bind_eq_some_iff.mp H
         obtain ⟨⟨t151, t152, t153⟩, A1130, H⟩ := H
         replace H : ((laws_heldSender.f kj72 t128 t152 t153 1).bind fun t154 => (if t154 < 0 then (some false) else (if t154 = t151 then ((laws_toSender.f kj72 a0_0 l0_1 l0_2).bind fun bt155 => ((impl_SendNext.f kj72 bt155.1 bt155.2.1 bt155.2.2).bind fun bt162 => ((laws_eqSender.f kj72 bt162.1 bt162.2.1 bt162.2.2.1 t110 t111 t114).bind fun t172 => (if t172 = true then (if bt162.2.2.2.1 = t117 then (laws_FnExactSendNext.j2 kj72 t151 (bt162.2.2.2.2 != t118) t128 t152 t153) else (laws_FnExactSendNext.j2 kj72 t151 true t128 t152 t153)) else (laws_FnExactSendNext.j2 kj72 t151 true t128 t152 t153))))) else (some false)))) = some r := H
         have A113 := sA A1130
         clear A1130
         replace H := Option.bind_eq_some_iff.mp H
         obtain ⟨t154, A1140, H⟩ := H
         replace H : (if t154 < 0 then (some false) else (if t154 = t151 then ((laws_toSender.f kj72 a0_0 l0_1 l0_2).bind fun bt155 => ((impl_SendNext.f kj72 bt155.1 bt155.2.1 bt155.2.2).bind fun bt162 => ((laws_eqSender.f kj72 bt162.1 bt162.2.1 bt162.2.2.1 t110 t111 t114).bind fun t172 => (if t172 = true then (if bt162.2.2.2.1 = t117 then (laws_FnExactSendNext.j2 kj72 t151 (bt162.2.2.2.2 != t118) t128 t152 t153) else (laws_FnExactSendNext.j2 kj72 t151 true t128 t152 t153)) else (laws_FnExactSendNext.j2 kj72 t151 true t128 t152 t153))))) else (some false))) = some r := H
         have A114 := sA A1140
         clear A1140
         by_cases c115 : t154 < 0
         ·rw [if_pos c115] at H
          have c115b0 : decide (t154 < 0) = true := decide_eq_true c115
          clear c115
          obtain rfl := Option.some.inj H
          have hnb116 := NB137_101.out
          have hnc116 := NB101_137.out
          have hnb117 := NB137_119.out
          have hnc117 := NB119_137.out
          have hnb118 := NB137_127.out
          have hnc118 := NB127_137.out
          have hcz119_0 : wc.cell? ⟨gb137, 0, none⟩ = some (.int .i64 t128) := (blk_cell BK137.out 0).trans rfl
          have hcz119_1 : wc.cell? ⟨gb137, 1, none⟩ = some (.slice Ao39 t129.length co39) := (blk_cell BK137.out 1).trans rfl
          have hcz119_2 : wc.cell? ⟨gb137, 2, none⟩ = some (.slice Ao40 t132.length co40) := (blk_cell BK137.out 2).trans rfl
          have hfz119_0 := blk_frozen BK137.out 0
          have hfz119_1 := blk_frozen BK137.out 1
          have hfz119_2 := blk_frozen BK137.out 2
          go_wp2_with (first | ((with_reducible refine gate_callee (f := 14) rfl ?_); refine goesL_ (some 79) rfl rfl Try.func14 (by kernel_rfl) rfl #[.agg #[.int .i64 t128, .slice Ao39 t129.length co39, .slice Ao40 t132.length co40], .int .i64 1] rfl (by (try simp only [List.map_toArray, List.map_cons, List.map_nil]); first | done | rfl | (simp only [List.length_drop, List.length_take]; rfl)) ?_; (with_reducible refine (laws_markSender.calls kj72 t128 (fun k_ => some k_ = (.slice Ao39 t129.length co39 : Value).ownBlock) (.slice Ao39 t129.length co39) t129 (fun k_ => some k_ = (.slice Ao40 t132.length co40 : Value).ownBlock) (.slice Ao40 t132.length co40) t132 1 t151 t152 t153 w _ ?side1 ?side2 ?side3 A113.out).mono ?_); (case side1 => repeat (first | (with_reducible first | exact HB.out | apply below_alloc | apply pw_below_drewN | apply below_drew1 | refine below_set ?_ GE101.out | refine below_set ?_ GE119.out | refine below_set ?_ GE127.out | refine below_set ?_ GE137.out) | exact HB.out)); (case side2 => exact Kd.R_tight rfl HO_138001.out); (case side3 => exact Kd.R_tight rfl HO_138002.out); rintro e w120 ⟨rfl, hy0, hy1, hb, hkp⟩; refine ⟨_, rfl, ?_⟩; have n0_ := sA (Kd.R_mono (ok' := fun k_ => some k_ ≠ (.slice Ao31 t148.length co31 : Value).ownBlock ∧ some k_ ≠ (.slice Ao39 t129.length co39 : Value).ownBlock) (Kd.R_keptB ((Kd.R_apart' HO_120001.out (Kd.R_typed HO_138002.out) (by decide))) hkp (fun k_ hk_ hs_ => Or.elim hs_ (fun e_ => (hk_.1.2) e_) (fun e_ => (hk_.2) e_))) (fun k_ hk_ => ⟨hk_.1.1.1, hk_.1.1.2⟩)); have n1_ := sA (Kd.R_mono (ok' := fun k_ => some k_ ≠ (.slice Ao32 t149.length co32 : Value).ownBlock ∧ some k_ ≠ (.slice Ao40 t132.length co40 : Value).ownBlock) (Kd.R_keptB ((Kd.R_apart' HO_120002.out (Kd.R_typed HO_138001.out) (by decide))) hkp (fun k_ hk_ hs_ => Or.elim hs_ (fun e_ => (hk_.2) e_) (fun e_ => (hk_.1.2) e_))) (fun k_ hk_ => ⟨hk_.1.1.1, hk_.1.1.2⟩)); have n2_ := sA (Kd.R_mono (ok' := fun k_ => some k_ ≠ (.slice Ao23 t111.length co23 : Value).ownBlock ∧ some k_ ≠ (.slice Ao39 t129.length co39 : Value).ownBlock) (Kd.R_keptB ((Kd.R_apart' HO_128001.out (Kd.R_typed HO_138002.out) (by decide))) hkp (fun k_ hk_ hs_ => Or.elim hs_ (fun e_ => (hk_.1.2) e_) (fun e_ => (hk_.2) e_))) (fun k_ hk_ => ⟨hk_.1.1.1, hk_.1.1.2⟩)); have n3_ := sA (Kd.R_mono (ok' := fun k_ => some k_ ≠ (.slice Ao24 t114.length co24 : Value).ownBlock ∧ some k_ ≠ (.slice Ao40 t132.length co40 : Value).ownBlock) (Kd.R_keptB ((Kd.R_apart' HO_128002.out (Kd.R_typed HO_138001.out) (by decide))) hkp (fun k_ hk_ hs_ => Or.elim hs_ (fun e_ => (hk_.2) e_) (fun e_ => (hk_.1.2) e_))) (fun k_ hk_ => ⟨hk_.1.1.1, hk_.1.1.2⟩)); have n4_ := sA (Kd.R_reok rfl hy0 (fun k_ e_ => HO_138001.out.1 k_ e_)); have n5_ := sA (Kd.R_reok rfl hy1 (fun k_ e_ => HO_138002.out.1 k_ e_)); have n6_ := sA (blk_kept (sB BK101.out) hkp (fun hs_ => Or.elim hs_ (fun e_ => (fun e_ => (Kd.R_ne HO_138001.out BK101.out (by decide)) e_) e_) (fun e_ => (fun e_ => (Kd.R_ne HO_138002.out BK101.out (by decide)) e_) e_))); have n7_ := sA (blk_kept (sB BK119.out) hkp (fun hs_ => Or.elim hs_ (fun e_ => (fun e_ => (Kd.R_ne HO_138001.out BK119.out (by decide)) e_) e_) (fun e_ => (fun e_ => (Kd.R_ne HO_138002.out BK119.out (by decide)) e_) e_))); have n8_ := sA (blk_kept (sB BK127.out) hkp (fun hs_ => Or.elim hs_ (fun e_ => (fun e_ => (Kd.R_ne HO_138001.out BK127.out (by decide)) e_) e_) (fun e_ => (fun e_ => (Kd.R_ne HO_138002.out BK127.out (by decide)) e_) e_))); have n9_ := sA (blk_kept (sB BK137.out) hkp (fun hs_ => Or.elim hs_ (fun e_ => (fun e_ => (Kd.R_ne HO_138001.out BK137.out (by decide)) e_) e_) (fun e_ => (fun e_ => (Kd.R_ne HO_138002.out BK137.out (by decide)) e_) e_))); have n10_ := sA (hb); clear HO_120001; clear HO_120002; clear HO_128001; clear HO_128002; clear HO_138001; clear HO_138002; clear BK101; clear BK119; clear BK127; clear BK137; clear HB; have HO_120001 := n0_; have HO_120002 := n1_; have HO_128001 := n2_; have HO_128002 := n3_; have HO_138001 := n4_; have HO_138002 := n5_; have BK101 := n6_; have BK119 := n7_; have BK127 := n8_; have BK137 := n9_; have HB := n10_; clear n0_ n1_ n2_ n3_ n4_ n5_ n6_ n7_ n8_ n9_ n10_; (try clear hb); (try clear hkp); (try clear hy0); (try clear hy1); have hcz121_0 : w120.cell? ⟨gb137, 0, none⟩ = some (.int .i64 t128) := (blk_cell BK137.out 0).trans rfl; have hcz121_1 : w120.cell? ⟨gb137, 1, none⟩ = some (.slice Ao39 t129.length co39) := (blk_cell BK137.out 1).trans rfl; have hcz121_2 : w120.cell? ⟨gb137, 2, none⟩ = some (.slice Ao40 t132.length co40) := (blk_cell BK137.out 2).trans rfl; have hfz121_0 := blk_frozen BK137.out 0; have hfz121_1 := blk_frozen BK137.out 1; have hfz121_2 := blk_frozen BK137.out 2) | ((with_reducible refine gate_callee (f := 19) rfl ?_); refine goesL_ (some 82) rfl rfl Try.func19 (by kernel_rfl) rfl #[.agg #[.int .i64 t128, .slice Ao39 t152.length co39, .slice Ao40 t153.length co40], .int .i64 1] rfl (by (try simp only [List.map_toArray, List.map_cons, List.map_nil]); first | done | (rw [show t152.length = t129.length from (Kd.R_reads' HO_138001.out).1.symm, show t153.length = t132.length from (Kd.R_reads' HO_138002.out).1.symm] <;> rfl) | rfl | (simp only [List.length_drop, List.length_take]; rfl)) ?_; (with_reducible refine (laws_heldSender.calls kj72 t128 _ _ t152 _ _ t153 1 t154 _ ?side1 ?side2 ?side3 ?side4 A114.out).mono ?_); (case side1 => repeat (first | exact (Kd.R_reads' HO_138001.out).2.2 | (with_reducible refine Kd.C_alloc ?_ _) | (with_reducible refine Kd.C_drewN ?_ _) | (with_reducible refine Kd.C_drew ?_))); (case side2 => rw [show t152.length = t129.length from (Kd.R_reads' HO_138001.out).1.symm]; exact (Kd.R_reads' HO_138001.out).2.1); (case side3 => repeat (first | exact (Kd.R_reads' HO_138002.out).2.2 | (with_reducible refine Kd.C_alloc ?_ _) | (with_reducible refine Kd.C_drewN ?_ _) | (with_reducible refine Kd.C_drew ?_))); (case side4 => rw [show t153.length = t132.length from (Kd.R_reads' HO_138002.out).1.symm]; exact (Kd.R_reads' HO_138002.out).2.1); rintro e w122 ⟨rfl, hb⟩; refine ⟨_, rfl, ?_⟩; have n0_ := sA (Kd.R_below (sR HO_120001.out) hb); have n1_ := sA (Kd.R_below (sR HO_120002.out) hb); have n2_ := sA (Kd.R_below (sR HO_128001.out) hb); have n3_ := sA (Kd.R_below (sR HO_128002.out) hb); have n4_ := sA (Kd.R_below (sR HO_138001.out) hb); have n5_ := sA (Kd.R_below (sR HO_138002.out) hb); have n6_ := sA (blk_below (g := gb101) (o := .cells #[.int .i64 a0_0, .slice A0_1 l0_1.length c0_1, .slice A0_2 l0_2.length c0_2] 25 (0, 0)) (sB BK101.out) hb); have n7_ := sA (blk_below (g := gb119) (o := .cells #[.int .i64 t110, .slice Ao23 t111.length co23, .slice Ao24 t114.length co24] 31 (0, 0)) (sB BK119.out) hb); have n8_ := sA (blk_below (g := gb127) (o := .cells #[.int .i64 t120, .slice Ao31 t148.length co31, .slice Ao32 t149.length co32] 31 (0, 0)) (sB BK127.out) hb); have n9_ := sA (blk_below (g := gb137) (o := .cells #[.int .i64 t128, .slice Ao39 t129.length co39, .slice Ao40 t132.length co40] 31 (0, 0)) (sB BK137.out) hb); have n10_ := sA (below_step (by repeat (first | (with_reducible first | exact HB.out | apply below_alloc | apply pw_below_drewN | apply below_drew1 | refine below_set ?_ (Aside0.out (by assumption))) | exact HB.out)) hb); clear HO_120001; clear HO_120002; clear HO_128001; clear HO_128002; clear HO_138001; clear HO_138002; clear BK101; clear BK119; clear BK127; clear BK137; clear HB; have HO_120001 := n0_; have HO_120002 := n1_; have HO_128001 := n2_; have HO_128002 := n3_; have HO_138001 := n4_; have HO_138002 := n5_; have BK101 := n6_; have BK119 := n7_; have BK127 := n8_; have BK137 := n9_; have HB := n10_; clear n0_ n1_ n2_ n3_ n4_ n5_ n6_ n7_ n8_ n9_ n10_; (try clear hb); (try clear hb2); (try clear hk); (try clear hi)))
          go_ret
          exact ⟨by first | rfl | (simp [errW_none, errW_some] <;> rfl) | (simp [*, errW_none, errW_some] <;> rfl), by repeat (first | (with_reducible first | exact HB.out | apply below_alloc | apply pw_below_drewN | apply below_drew1 | refine below_set ?_ GE101.out | refine below_set ?_ GE119.out | refine below_set ?_ GE127.out | refine below_set ?_ GE137.out) | exact HB.out)⟩
         ·rw [if_neg c115] at H
          have c115b0 : decide (t154 < 0) = false := decide_eq_false c115
          clear c115
          by_cases c123 : t154 = t151
          ·rw [if_pos c123] at H
           have c123b0 : (t154 == t151) = true := beq_iff_eq.mpr c123
           have c123b1 : (t154 != t151) = false := bne_eq_false_iff_eq.mpr c123
           clear c123
           replace H := Option.bind_eq_some_iff.mp H
           obtain ⟨⟨t155, t156, t159⟩, A1240, H⟩ := H
           replace H : ((impl_SendNext.f kj72 t155 t156 t159).bind fun bt162 => ((laws_eqSender.f kj72 bt162.1 bt162.2.1 bt162.2.2.1 t110 t111 t114).bind fun t172 => (if t172 = true then (if bt162.2.2.2.1 = t117 then (laws_FnExactSendNext.j2 kj72 t151 (bt162.2.2.2.2 != t118) t128 t152 t153) else (laws_FnExactSendNext.j2 kj72 t151 true t128 t152 t153)) else (laws_FnExactSendNext.j2 kj72 t151 true t128 t152 t153)))) = some r := H
           have A124 := sA A1240
           clear A1240
           replace H := Option.bind_eq_some_iff.mp H
           obtain ⟨⟨t162, t163, t166, t169, t170⟩, A1250, H⟩ := H
           replace H : ((laws_eqSender.f kj72 t162 t163 t166 t110 t111 t114).bind fun t172 => (if t172 = true then (if t169 = t117 then (laws_FnExactSendNext.j2 kj72 t151 (t170 != t118) t128 t152 t153) else (laws_FnExactSendNext.j2 kj72 t151 true t128 t152 t153)) else (laws_FnExactSendNext.j2 kj72 t151 true t128 t152 t153))) = some r := H
           have A125 := sA A1250
           clear A1250
           have HC126 := sA H
           clear H
           have hnb127 := NB137_101.out
           have hnc127 := NB101_137.out
           have hnb128 := NB137_119.out
           have hnc128 := NB119_137.out
           have hnb129 := NB137_127.out
           have hnc129 := NB127_137.out
           have hcz130_0 : wc.cell? ⟨gb137, 0, none⟩ = some (.int .i64 t128) := (blk_cell BK137.out 0).trans rfl
           have hcz130_1 : wc.cell? ⟨gb137, 1, none⟩ = some (.slice Ao39 t129.length co39) := (blk_cell BK137.out 1).trans rfl
           have hcz130_2 : wc.cell? ⟨gb137, 2, none⟩ = some (.slice Ao40 t132.length co40) := (blk_cell BK137.out 2).trans rfl
           have hfz130_0 := blk_frozen BK137.out 0
           have hfz130_1 := blk_frozen BK137.out 1
           have hfz130_2 := blk_frozen BK137.out 2
           go_upto_region 25 with (first | ((with_reducible refine gate_callee (f := 14) rfl ?_); refine goesL_ (some 79) rfl rfl Try.func14 (by kernel_rfl) rfl #[.agg #[.int .i64 t128, .slice Ao39 t129.length co39, .slice Ao40 t132.length co40], .int .i64 1] rfl (by (try simp only [List.map_toArray, List.map_cons, List.map_nil]); first | done | rfl | (simp only [List.length_drop, List.length_take]; rfl)) ?_; (with_reducible refine (laws_markSender.calls kj72 t128 (fun k_ => some k_ = (.slice Ao39 t129.length co39 : Value).ownBlock) (.slice Ao39 t129.length co39) t129 (fun k_ => some k_ = (.slice Ao40 t132.length co40 : Value).ownBlock) (.slice Ao40 t132.length co40) t132 1 t151 t152 t153 w _ ?side1 ?side2 ?side3 A113.out).mono ?_); (case side1 => repeat (first | (with_reducible first | exact HB.out | apply below_alloc | apply pw_below_drewN | apply below_drew1 | refine below_set ?_ GE101.out | refine below_set ?_ GE119.out | refine below_set ?_ GE127.out | refine below_set ?_ GE137.out) | exact HB.out)); (case side2 => exact Kd.R_tight rfl HO_138001.out); (case side3 => exact Kd.R_tight rfl HO_138002.out); rintro e w131 ⟨rfl, hy0, hy1, hb, hkp⟩; refine ⟨_, rfl, ?_⟩; have n0_ := sA (Kd.R_mono (ok' := fun k_ => some k_ ≠ (.slice Ao31 t148.length co31 : Value).ownBlock ∧ some k_ ≠ (.slice Ao39 t129.length co39 : Value).ownBlock) (Kd.R_keptB ((Kd.R_apart' HO_120001.out (Kd.R_typed HO_138002.out) (by decide))) hkp (fun k_ hk_ hs_ => Or.elim hs_ (fun e_ => (hk_.1.2) e_) (fun e_ => (hk_.2) e_))) (fun k_ hk_ => ⟨hk_.1.1.1, hk_.1.1.2⟩)); have n1_ := sA (Kd.R_mono (ok' := fun k_ => some k_ ≠ (.slice Ao32 t149.length co32 : Value).ownBlock ∧ some k_ ≠ (.slice Ao40 t132.length co40 : Value).ownBlock) (Kd.R_keptB ((Kd.R_apart' HO_120002.out (Kd.R_typed HO_138001.out) (by decide))) hkp (fun k_ hk_ hs_ => Or.elim hs_ (fun e_ => (hk_.2) e_) (fun e_ => (hk_.1.2) e_))) (fun k_ hk_ => ⟨hk_.1.1.1, hk_.1.1.2⟩)); have n2_ := sA (Kd.R_mono (ok' := fun k_ => some k_ ≠ (.slice Ao23 t111.length co23 : Value).ownBlock ∧ some k_ ≠ (.slice Ao39 t129.length co39 : Value).ownBlock) (Kd.R_keptB ((Kd.R_apart' HO_128001.out (Kd.R_typed HO_138002.out) (by decide))) hkp (fun k_ hk_ hs_ => Or.elim hs_ (fun e_ => (hk_.1.2) e_) (fun e_ => (hk_.2) e_))) (fun k_ hk_ => ⟨hk_.1.1.1, hk_.1.1.2⟩)); have n3_ := sA (Kd.R_mono (ok' := fun k_ => some k_ ≠ (.slice Ao24 t114.length co24 : Value).ownBlock ∧ some k_ ≠ (.slice Ao40 t132.length co40 : Value).ownBlock) (Kd.R_keptB ((Kd.R_apart' HO_128002.out (Kd.R_typed HO_138001.out) (by decide))) hkp (fun k_ hk_ hs_ => Or.elim hs_ (fun e_ => (hk_.2) e_) (fun e_ => (hk_.1.2) e_))) (fun k_ hk_ => ⟨hk_.1.1.1, hk_.1.1.2⟩)); have n4_ := sA (Kd.R_reok rfl hy0 (fun k_ e_ => HO_138001.out.1 k_ e_)); have n5_ := sA (Kd.R_reok rfl hy1 (fun k_ e_ => HO_138002.out.1 k_ e_)); have n6_ := sA (blk_kept (sB BK101.out) hkp (fun hs_ => Or.elim hs_ (fun e_ => (fun e_ => (Kd.R_ne HO_138001.out BK101.out (by decide)) e_) e_) (fun e_ => (fun e_ => (Kd.R_ne HO_138002.out BK101.out (by decide)) e_) e_))); have n7_ := sA (blk_kept (sB BK119.out) hkp (fun hs_ => Or.elim hs_ (fun e_ => (fun e_ => (Kd.R_ne HO_138001.out BK119.out (by decide)) e_) e_) (fun e_ => (fun e_ => (Kd.R_ne HO_138002.out BK119.out (by decide)) e_) e_))); have n8_ := sA (blk_kept (sB BK127.out) hkp (fun hs_ => Or.elim hs_ (fun e_ => (fun e_ => (Kd.R_ne HO_138001.out BK127.out (by decide)) e_) e_) (fun e_ => (fun e_ => (Kd.R_ne HO_138002.out BK127.out (by decide)) e_) e_))); have n9_ := sA (blk_kept (sB BK137.out) hkp (fun hs_ => Or.elim hs_ (fun e_ => (fun e_ => (Kd.R_ne HO_138001.out BK137.out (by decide)) e_) e_) (fun e_ => (fun e_ => (Kd.R_ne HO_138002.out BK137.out (by decide)) e_) e_))); have n10_ := sA (hb); clear HO_120001; clear HO_120002; clear HO_128001; clear HO_128002; clear HO_138001; clear HO_138002; clear BK101; clear BK119; clear BK127; clear BK137; clear HB; have HO_120001 := n0_; have HO_120002 := n1_; have HO_128001 := n2_; have HO_128002 := n3_; have HO_138001 := n4_; have HO_138002 := n5_; have BK101 := n6_; have BK119 := n7_; have BK127 := n8_; have BK137 := n9_; have HB := n10_; clear n0_ n1_ n2_ n3_ n4_ n5_ n6_ n7_ n8_ n9_ n10_; (try clear hb); (try clear hkp); (try clear hy0); (try clear hy1); have hcz132_0 : w131.cell? ⟨gb137, 0, none⟩ = some (.int .i64 t128) := (blk_cell BK137.out 0).trans rfl; have hcz132_1 : w131.cell? ⟨gb137, 1, none⟩ = some (.slice Ao39 t129.length co39) := (blk_cell BK137.out 1).trans rfl; have hcz132_2 : w131.cell? ⟨gb137, 2, none⟩ = some (.slice Ao40 t132.length co40) := (blk_cell BK137.out 2).trans rfl; have hfz132_0 := blk_frozen BK137.out 0; have hfz132_1 := blk_frozen BK137.out 1; have hfz132_2 := blk_frozen BK137.out 2) | ((with_reducible refine gate_callee (f := 19) rfl ?_); refine goesL_ (some 82) rfl rfl Try.func19 (by kernel_rfl) rfl #[.agg #[.int .i64 t128, .slice Ao39 t152.length co39, .slice Ao40 t153.length co40], .int .i64 1] rfl (by (try simp only [List.map_toArray, List.map_cons, List.map_nil]); first | done | (rw [show t152.length = t129.length from (Kd.R_reads' HO_138001.out).1.symm, show t153.length = t132.length from (Kd.R_reads' HO_138002.out).1.symm] <;> rfl) | rfl | (simp only [List.length_drop, List.length_take]; rfl)) ?_; (with_reducible refine (laws_heldSender.calls kj72 t128 _ _ t152 _ _ t153 1 t154 _ ?side1 ?side2 ?side3 ?side4 A114.out).mono ?_); (case side1 => repeat (first | exact (Kd.R_reads' HO_138001.out).2.2 | (with_reducible refine Kd.C_alloc ?_ _) | (with_reducible refine Kd.C_drewN ?_ _) | (with_reducible refine Kd.C_drew ?_))); (case side2 => rw [show t152.length = t129.length from (Kd.R_reads' HO_138001.out).1.symm]; exact (Kd.R_reads' HO_138001.out).2.1); (case side3 => repeat (first | exact (Kd.R_reads' HO_138002.out).2.2 | (with_reducible refine Kd.C_alloc ?_ _) | (with_reducible refine Kd.C_drewN ?_ _) | (with_reducible refine Kd.C_drew ?_))); (case side4 => rw [show t153.length = t132.length from (Kd.R_reads' HO_138002.out).1.symm]; exact (Kd.R_reads' HO_138002.out).2.1); rintro e w133 ⟨rfl, hb⟩; refine ⟨_, rfl, ?_⟩; have n0_ := sA (Kd.R_below (sR HO_120001.out) hb); have n1_ := sA (Kd.R_below (sR HO_120002.out) hb); have n2_ := sA (Kd.R_below (sR HO_128001.out) hb); have n3_ := sA (Kd.R_below (sR HO_128002.out) hb); have n4_ := sA (Kd.R_below (sR HO_138001.out) hb); have n5_ := sA (Kd.R_below (sR HO_138002.out) hb); have n6_ := sA (blk_below (g := gb101) (o := .cells #[.int .i64 a0_0, .slice A0_1 l0_1.length c0_1, .slice A0_2 l0_2.length c0_2] 25 (0, 0)) (sB BK101.out) hb); have n7_ := sA (blk_below (g := gb119) (o := .cells #[.int .i64 t110, .slice Ao23 t111.length co23, .slice Ao24 t114.length co24] 31 (0, 0)) (sB BK119.out) hb); have n8_ := sA (blk_below (g := gb127) (o := .cells #[.int .i64 t120, .slice Ao31 t148.length co31, .slice Ao32 t149.length co32] 31 (0, 0)) (sB BK127.out) hb); have n9_ := sA (blk_below (g := gb137) (o := .cells #[.int .i64 t128, .slice Ao39 t129.length co39, .slice Ao40 t132.length co40] 31 (0, 0)) (sB BK137.out) hb); have n10_ := sA (below_step (by repeat (first | (with_reducible first | exact HB.out | apply below_alloc | apply pw_below_drewN | apply below_drew1 | refine below_set ?_ (Aside0.out (by assumption))) | exact HB.out)) hb); clear HO_120001; clear HO_120002; clear HO_128001; clear HO_128002; clear HO_138001; clear HO_138002; clear BK101; clear BK119; clear BK127; clear BK137; clear HB; have HO_120001 := n0_; have HO_120002 := n1_; have HO_128001 := n2_; have HO_128002 := n3_; have HO_138001 := n4_; have HO_138002 := n5_; have BK101 := n6_; have BK119 := n7_; have BK127 := n8_; have BK137 := n9_; have HB := n10_; clear n0_ n1_ n2_ n3_ n4_ n5_ n6_ n7_ n8_ n9_ n10_; (try clear hb); (try clear hb2); (try clear hk); (try clear hi); have hnb134 := NB101_119.out; have hnc134 := NB119_101.out; have hnb135 := NB101_127.out; have hnc135 := NB127_101.out; have hcz136_0 : w133.cell? ⟨gb101, 0, none⟩ = some (.int .i64 a0_0) := (blk_cell BK101.out 0).trans rfl; have hcz136_1 : w133.cell? ⟨gb101, 1, none⟩ = some (.slice A0_1 l0_1.length c0_1) := (blk_cell BK101.out 1).trans rfl; have hcz136_2 : w133.cell? ⟨gb101, 2, none⟩ = some (.slice A0_2 l0_2.length c0_2) := (blk_cell BK101.out 2).trans rfl; have hfz136_0 := blk_frozen BK101.out 0; have hfz136_1 := blk_frozen BK101.out 1; have hfz136_2 := blk_frozen BK101.out 2) | ((with_reducible refine gate_callee (f := 10) rfl ?_); refine goesL_ (some 90) rfl rfl Try.func10 (by kernel_rfl) rfl #[.agg #[.int .i64 a0_0, .slice A0_1 l0_1.length c0_1, .slice A0_2 l0_2.length c0_2]] rfl (by (try simp only [List.map_toArray, List.map_cons, List.map_nil]); first | done | rfl | (simp only [List.length_drop, List.length_take]; rfl)) ?_; (with_reducible refine (laws_toSender.calls kj72 a0_0 _ _ l0_1 _ _ l0_2 t155 t156 t159 _ ?side1 ?side2 ?side3 ?side4 A124.out).mono ?_); (case side1 => repeat (first | exact (Kd.C_below HR0_1.out HB.out) | (with_reducible refine Kd.C_alloc ?_ _) | (with_reducible refine Kd.C_drewN ?_ _) | (with_reducible refine Kd.C_drew ?_))); (case side2 => exact HC0_1.out); (case side3 => repeat (first | exact (Kd.C_below HR0_2.out HB.out) | (with_reducible refine Kd.C_alloc ?_ _) | (with_reducible refine Kd.C_drewN ?_ _) | (with_reducible refine Kd.C_drew ?_))); (case side4 => exact HC0_2.out); rintro e w137 ⟨v157, v160, rfl, ho0, ho1, hb⟩; refine ⟨_, rfl, ?_⟩; have n0_ := sA (Kd.R_elder' (sR HO_120001.out) (Kd.R_base ho0) hb); have n1_ := sA (Kd.R_elder' (sR HO_120002.out) (Kd.R_base ho1) hb); have n2_ := sA (Kd.R_elder' (sR HO_128001.out) (Kd.R_base ho0) hb); have n3_ := sA (Kd.R_elder' (sR HO_128002.out) (Kd.R_base ho1) hb); have n4_ := sA (Kd.R_elder' (sR HO_138001.out) (Kd.R_base ho0) hb); have n5_ := sA (Kd.R_elder' (sR HO_138002.out) (Kd.R_base ho1) hb); have n6_ := sA (Kd.R_lower (Kd.R_new' (Kd.R_new' (Kd.R_new' ho0 (Kd.R_lt (sR HO_120001.out))) (Kd.R_lt (sR HO_128001.out))) (Kd.R_lt (sR HO_138001.out))) (below_size (by repeat (first | (with_reducible first | exact HB.out | apply below_alloc | apply pw_below_drewN | apply below_drew1 | refine below_set ?_ (Aside0.out (by assumption))) | exact HB.out)))); have n7_ := sA (Kd.R_lower (Kd.R_new' (Kd.R_new' (Kd.R_new' ho1 (Kd.R_lt (sR HO_120002.out))) (Kd.R_lt (sR HO_128002.out))) (Kd.R_lt (sR HO_138002.out))) (below_size (by repeat (first | (with_reducible first | exact HB.out | apply below_alloc | apply pw_below_drewN | apply below_drew1 | refine below_set ?_ (Aside0.out (by assumption))) | exact HB.out)))); have n8_ := sA (blk_below (g := gb101) (o := .cells #[.int .i64 a0_0, .slice A0_1 l0_1.length c0_1, .slice A0_2 l0_2.length c0_2] 25 (0, 0)) (sB BK101.out) hb); have n9_ := sA (blk_below (g := gb119) (o := .cells #[.int .i64 t110, .slice Ao23 t111.length co23, .slice Ao24 t114.length co24] 31 (0, 0)) (sB BK119.out) hb); have n10_ := sA (blk_below (g := gb127) (o := .cells #[.int .i64 t120, .slice Ao31 t148.length co31, .slice Ao32 t149.length co32] 31 (0, 0)) (sB BK127.out) hb); have n11_ := sA (blk_below (g := gb137) (o := .cells #[.int .i64 t128, .slice Ao39 t129.length co39, .slice Ao40 t132.length co40] 31 (0, 0)) (sB BK137.out) hb); have n12_ := sA (below_step (by repeat (first | (with_reducible first | exact HB.out | apply below_alloc | apply pw_below_drewN | apply below_drew1 | refine below_set ?_ (Aside0.out (by assumption))) | exact HB.out)) hb); clear HO_120001; clear HO_120002; clear HO_128001; clear HO_128002; clear HO_138001; clear HO_138002; clear BK101; clear BK119; clear BK127; clear BK137; clear HB; have HO_120001 := n0_; have HO_120002 := n1_; have HO_128001 := n2_; have HO_128002 := n3_; have HO_138001 := n4_; have HO_138002 := n5_; have HO158 := n6_; have HO161 := n7_; have BK101 := n8_; have BK119 := n9_; have BK127 := n10_; have BK137 := n11_; have HB := n12_; clear n0_ n1_ n2_ n3_ n4_ n5_ n6_ n7_ n8_ n9_ n10_ n11_ n12_; (try clear hb); (try clear hb2); (try clear hk); (try clear hi); (try clear ho0); (try clear ho1); obtain ⟨Ao138, co138, eo138⟩ := Kd.R_slice HO158.out; subst eo138; obtain ⟨Ao139, co139, eo139⟩ := Kd.R_slice HO161.out; subst eo139) | ((with_reducible refine gate_callee (f := 18) rfl ?_); refine goesL_ (some 91) rfl rfl Try.func18 (by kernel_rfl) rfl #[.agg #[.int .i64 t155, .slice Ao138 t156.length co138, .slice Ao139 t159.length co139]] rfl (by (try simp only [List.map_toArray, List.map_cons, List.map_nil]); first | done | rfl | (simp only [List.length_drop, List.length_take]; rfl)) ?_; (with_reducible refine (impl_SendNext.calls kj72 t155 _ _ t156 _ _ t159 t162 t163 t166 t169 t170 _ ?side1 ?side2 ?side3 ?side4 A125.out).mono ?_); (case side1 => repeat (first | exact (Kd.R_reads' HO158.out).2.2 | (with_reducible refine Kd.C_alloc ?_ _) | (with_reducible refine Kd.C_drewN ?_ _) | (with_reducible refine Kd.C_drew ?_))); (case side2 => exact (Kd.R_reads' HO158.out).2.1); (case side3 => repeat (first | exact (Kd.R_reads' HO161.out).2.2 | (with_reducible refine Kd.C_alloc ?_ _) | (with_reducible refine Kd.C_drewN ?_ _) | (with_reducible refine Kd.C_drew ?_))); (case side4 => exact (Kd.R_reads' HO161.out).2.1); rintro e w140 ⟨v164, v167, rfl, ho0, ho1, hb⟩; refine ⟨_, rfl, ?_⟩; have n0_ := sA (Kd.R_elder' (sR HO_120001.out) (Kd.R_base ho0) hb); have n1_ := sA (Kd.R_elder' (sR HO_120002.out) (Kd.R_base ho1) hb); have n2_ := sA (Kd.R_elder' (sR HO_128001.out) (Kd.R_base ho0) hb); have n3_ := sA (Kd.R_elder' (sR HO_128002.out) (Kd.R_base ho1) hb); have n4_ := sA (Kd.R_elder' (sR HO_138001.out) (Kd.R_base ho0) hb); have n5_ := sA (Kd.R_elder' (sR HO_138002.out) (Kd.R_base ho1) hb); have n6_ := sA (Kd.R_elder' (sR HO158.out) (Kd.R_base ho0) hb); have n7_ := sA (Kd.R_elder' (sR HO161.out) (Kd.R_base ho1) hb); have n8_ := sA (Kd.R_lower (Kd.R_new' (Kd.R_new' (Kd.R_new' (Kd.R_new' ho0 (Kd.R_lt (sR HO_120001.out))) (Kd.R_lt (sR HO_128001.out))) (Kd.R_lt (sR HO_138001.out))) (Kd.R_lt (sR HO158.out))) (below_size (by repeat (first | (with_reducible first | exact HB.out | apply below_alloc | apply pw_below_drewN | apply below_drew1 | refine below_set ?_ (Aside0.out (by assumption))) | exact HB.out)))); have n9_ := sA (Kd.R_lower (Kd.R_new' (Kd.R_new' (Kd.R_new' (Kd.R_new' ho1 (Kd.R_lt (sR HO_120002.out))) (Kd.R_lt (sR HO_128002.out))) (Kd.R_lt (sR HO_138002.out))) (Kd.R_lt (sR HO161.out))) (below_size (by repeat (first | (with_reducible first | exact HB.out | apply below_alloc | apply pw_below_drewN | apply below_drew1 | refine below_set ?_ (Aside0.out (by assumption))) | exact HB.out)))); have n10_ := sA (blk_below (g := gb101) (o := .cells #[.int .i64 a0_0, .slice A0_1 l0_1.length c0_1, .slice A0_2 l0_2.length c0_2] 25 (0, 0)) (sB BK101.out) hb); have n11_ := sA (blk_below (g := gb119) (o := .cells #[.int .i64 t110, .slice Ao23 t111.length co23, .slice Ao24 t114.length co24] 31 (0, 0)) (sB BK119.out) hb); have n12_ := sA (blk_below (g := gb127) (o := .cells #[.int .i64 t120, .slice Ao31 t148.length co31, .slice Ao32 t149.length co32] 31 (0, 0)) (sB BK127.out) hb); have n13_ := sA (blk_below (g := gb137) (o := .cells #[.int .i64 t128, .slice Ao39 t129.length co39, .slice Ao40 t132.length co40] 31 (0, 0)) (sB BK137.out) hb); have n14_ := sA (below_step (by repeat (first | (with_reducible first | exact HB.out | apply below_alloc | apply pw_below_drewN | apply below_drew1 | refine below_set ?_ (Aside0.out (by assumption))) | exact HB.out)) hb); clear HO_120001; clear HO_120002; clear HO_128001; clear HO_128002; clear HO_138001; clear HO_138002; clear HO158; clear HO161; clear BK101; clear BK119; clear BK127; clear BK137; clear HB; have HO_120001 := n0_; have HO_120002 := n1_; have HO_128001 := n2_; have HO_128002 := n3_; have HO_138001 := n4_; have HO_138002 := n5_; have HO158 := n6_; have HO161 := n7_; have HO165 := n8_; have HO168 := n9_; have BK101 := n10_; have BK119 := n11_; have BK127 := n12_; have BK137 := n13_; have HB := n14_; clear n0_ n1_ n2_ n3_ n4_ n5_ n6_ n7_ n8_ n9_ n10_ n11_ n12_ n13_ n14_; (try clear hb); (try clear hb2); (try clear hk); (try clear hi); (try clear ho0); (try clear ho1)) | ((with_reducible refine gate_dst (N := 14) rfl ?_); refine box_event ?hg (N := 14) ?hd (cs := #[.int .i64 0, .slice none 0 0, .slice none 0 0]) (t := 31) ?hr ?_; (case hd => rfl); (case hg => rfl); (case hr => first | (go_simp; done) | (go_simp; rfl)); intro gb171 hg w141 hbox hb; have n0_ := sA (Kd.R_below (sR HO_120001.out) hb); have n1_ := sA (Kd.R_below (sR HO_120002.out) hb); have n2_ := sA (Kd.R_below (sR HO_128001.out) hb); have n3_ := sA (Kd.R_below (sR HO_128002.out) hb); have n4_ := sA (Kd.R_below (sR HO_138001.out) hb); have n5_ := sA (Kd.R_below (sR HO_138002.out) hb); have n6_ := sA (Kd.R_below (sR HO158.out) hb); have n7_ := sA (Kd.R_below (sR HO161.out) hb); have n8_ := sA (Kd.R_below (sR HO165.out) hb); have n9_ := sA (Kd.R_below (sR HO168.out) hb); have n10_ := sA (blk_below (g := gb101) (o := .cells #[.int .i64 a0_0, .slice A0_1 l0_1.length c0_1, .slice A0_2 l0_2.length c0_2] 25 (0, 0)) (sB BK101.out) hb); have n11_ := sA (blk_below (g := gb119) (o := .cells #[.int .i64 t110, .slice Ao23 t111.length co23, .slice Ao24 t114.length co24] 31 (0, 0)) (sB BK119.out) hb); have n12_ := sA (blk_below (g := gb127) (o := .cells #[.int .i64 t120, .slice Ao31 t148.length co31, .slice Ao32 t149.length co32] 31 (0, 0)) (sB BK127.out) hb); have n13_ := sA (blk_below (g := gb137) (o := .cells #[.int .i64 t128, .slice Ao39 t129.length co39, .slice Ao40 t132.length co40] 31 (0, 0)) (sB BK137.out) hb); have n14_ := sA (below_step (by repeat (first | (with_reducible first | exact HB.out | apply below_alloc | apply pw_below_drewN | apply below_drew1 | refine below_set ?_ (Aside0.out (by assumption))) | exact HB.out)) hb); have n15_ := sA (hbox); have n16_ := sA ((by rw [hg]; exact (below_size (by repeat (first | (with_reducible first | exact HB.out | apply below_alloc | apply pw_below_drewN | apply below_drew1 | refine below_set ?_ (Aside0.out (by assumption))) | exact HB.out))) : w.heap.size ≤ gb171)); have n17_ := sA ((by rw [hg]; exact (below_size (by repeat (first | (with_reducible first | exact HB.out | apply below_alloc | apply pw_below_drewN | apply below_drew1 | refine below_set ?_ (Aside0.out (by assumption))) | exact HB.out))) : w.heap.size ≤ gb171)); have n18_ := sA ((by rw [hg]; exact Nat.ne_of_lt (blk_lt (g := gb101) (o := .cells #[.int .i64 a0_0, .slice A0_1 l0_1.length c0_1, .slice A0_2 l0_2.length c0_2] 25 (0, 0)) (sB BK101.out)) : gb101 ≠ gb171)); have n19_ := sA ((by rw [hg]; exact Nat.ne_of_gt (blk_lt (g := gb101) (o := .cells #[.int .i64 a0_0, .slice A0_1 l0_1.length c0_1, .slice A0_2 l0_2.length c0_2] 25 (0, 0)) (sB BK101.out)) : gb171 ≠ gb101)); have n20_ := sA ((by rw [hg]; exact Nat.ne_of_lt (blk_lt (g := gb119) (o := .cells #[.int .i64 t110, .slice Ao23 t111.length co23, .slice Ao24 t114.length co24] 31 (0, 0)) (sB BK119.out)) : gb119 ≠ gb171)); have n21_ := sA ((by rw [hg]; exact Nat.ne_of_gt (blk_lt (g := gb119) (o := .cells #[.int .i64 t110, .slice Ao23 t111.length co23, .slice Ao24 t114.length co24] 31 (0, 0)) (sB BK119.out)) : gb171 ≠ gb119)); have n22_ := sA ((by rw [hg]; exact Nat.ne_of_lt (blk_lt (g := gb127) (o := .cells #[.int .i64 t120, .slice Ao31 t148.length co31, .slice Ao32 t149.length co32] 31 (0, 0)) (sB BK127.out)) : gb127 ≠ gb171)); have n23_ := sA ((by rw [hg]; exact Nat.ne_of_gt (blk_lt (g := gb127) (o := .cells #[.int .i64 t120, .slice Ao31 t148.length co31, .slice Ao32 t149.length co32] 31 (0, 0)) (sB BK127.out)) : gb171 ≠ gb127)); have n24_ := sA ((by rw [hg]; exact Nat.ne_of_lt (blk_lt (g := gb137) (o := .cells #[.int .i64 t128, .slice Ao39 t129.length co39, .slice Ao40 t132.length co40] 31 (0, 0)) (sB BK137.out)) : gb137 ≠ gb171)); have n25_ := sA ((by rw [hg]; exact Nat.ne_of_gt (blk_lt (g := gb137) (o := .cells #[.int .i64 t128, .slice Ao39 t129.length co39, .slice Ao40 t132.length co40] 31 (0, 0)) (sB BK137.out)) : gb171 ≠ gb137)); clear HO_120001; clear HO_120002; clear HO_128001; clear HO_128002; clear HO_138001; clear HO_138002; clear HO158; clear HO161; clear HO165; clear HO168; clear BK101; clear BK119; clear BK127; clear BK137; clear HB; have HO_120001 := n0_; have HO_120002 := n1_; have HO_128001 := n2_; have HO_128002 := n3_; have HO_138001 := n4_; have HO_138002 := n5_; have HO158 := n6_; have HO161 := n7_; have HO165 := n8_; have HO168 := n9_; have BK101 := n10_; have BK119 := n11_; have BK127 := n12_; have BK137 := n13_; have HB := n14_; have BK171 := n15_; have GW171 := n16_; have GE171 := n17_; have NB101_171 := n18_; have NB171_101 := n19_; have NB119_171 := n20_; have NB171_119 := n21_; have NB127_171 := n22_; have NB171_127 := n23_; have NB137_171 := n24_; have NB171_137 := n25_; clear n0_ n1_ n2_ n3_ n4_ n5_ n6_ n7_ n8_ n9_ n10_ n11_ n12_ n13_ n14_ n15_ n16_ n17_ n18_ n19_ n20_ n21_ n22_ n23_ n24_ n25_; clear hb hbox hg; have hnb142 := NB171_101.out; have hnc142 := NB101_171.out; have hnb143 := NB171_119.out; have hnc143 := NB119_171.out; have hnb144 := NB171_127.out; have hnc144 := NB127_171.out; have hnb145 := NB171_137.out; have hnc145 := NB137_171.out; have hcz146_0 : w141.cell? ⟨gb171, 0, none⟩ = some (.int .i64 0) := (blk_cell BK171.out 0).trans rfl; have hcz146_1 : w141.cell? ⟨gb171, 1, none⟩ = some (.slice none 0 0) := (blk_cell BK171.out 1).trans rfl; have hcz146_2 : w141.cell? ⟨gb171, 2, none⟩ = some (.slice none 0 0) := (blk_cell BK171.out 2).trans rfl; have hfz146_0 := blk_frozen BK171.out 0; have hfz146_1 := blk_frozen BK171.out 1; have hfz146_2 := blk_frozen BK171.out 2; obtain ⟨Ao147, co147, eo147⟩ := Kd.R_slice HO165.out; subst eo147; obtain ⟨Ao148, co148, eo148⟩ := Kd.R_slice HO168.out; subst eo148))
           (try simp only [Act.put, List.setIfInBounds_toArray, List.set_cons_zero, List.set_cons_succ])
           go_cut [108] (fun v108 wc => ∃ (kq : Nat) (x108_125 : Bool), v108 = .bool x108_125 ∧ Aside0 (laws_FnExactSendNext.j2 kq t151 x108_125 t128 t152 t153 = some r) ∧ Aside0 (kq ≤ kj72) ∧ Aside0 (Kd.R k59 59 wc w.heap.size (fun k_ => some k_ ≠ ((.slice Ao31 t148.length co31) : Value).ownBlock ∧ some k_ ≠ ((.slice Ao39 t129.length co39) : Value).ownBlock ∧ some k_ ≠ ((.slice Ao147 t163.length co147) : Value).ownBlock) (.slice Ao23 t111.length co23) t111) ∧ Aside0 (Kd.R (Kd.int .i64) 3 wc w.heap.size (fun k_ => some k_ ≠ ((.slice Ao32 t149.length co32) : Value).ownBlock ∧ some k_ ≠ ((.slice Ao40 t132.length co40) : Value).ownBlock ∧ some k_ ≠ ((.slice Ao148 t166.length co148) : Value).ownBlock) (.slice Ao24 t114.length co24) t114) ∧ Aside0 (Kd.R k59 59 wc w.heap.size (fun k_ => some k_ ≠ ((.slice Ao23 t111.length co23) : Value).ownBlock ∧ some k_ ≠ ((.slice Ao39 t129.length co39) : Value).ownBlock ∧ some k_ ≠ ((.slice Ao147 t163.length co147) : Value).ownBlock) (.slice Ao31 t148.length co31) t148) ∧ Aside0 (Kd.R (Kd.int .i64) 3 wc w.heap.size (fun k_ => some k_ ≠ ((.slice Ao24 t114.length co24) : Value).ownBlock ∧ some k_ ≠ ((.slice Ao40 t132.length co40) : Value).ownBlock ∧ some k_ ≠ ((.slice Ao148 t166.length co148) : Value).ownBlock) (.slice Ao32 t149.length co32) t149) ∧ Aside0 (Kd.R k59 59 wc w.heap.size (fun k_ => some k_ ≠ ((.slice Ao23 t111.length co23) : Value).ownBlock ∧ some k_ ≠ ((.slice Ao31 t148.length co31) : Value).ownBlock ∧ some k_ ≠ ((.slice Ao147 t163.length co147) : Value).ownBlock) (.slice Ao39 t129.length co39) t152) ∧ Aside0 (Kd.R (Kd.int .i64) 3 wc w.heap.size (fun k_ => some k_ ≠ ((.slice Ao24 t114.length co24) : Value).ownBlock ∧ some k_ ≠ ((.slice Ao32 t149.length co32) : Value).ownBlock ∧ some k_ ≠ ((.slice Ao148 t166.length co148) : Value).ownBlock) (.slice Ao40 t132.length co40) t153) ∧ Aside0 (Kd.R k59 59 wc w.heap.size (fun k_ => some k_ ≠ ((.slice Ao23 t111.length co23) : Value).ownBlock ∧ some k_ ≠ ((.slice Ao31 t148.length co31) : Value).ownBlock ∧ some k_ ≠ ((.slice Ao39 t129.length co39) : Value).ownBlock) (.slice Ao147 t163.length co147) t163) ∧ Aside0 (Kd.R (Kd.int .i64) 3 wc w.heap.size (fun k_ => some k_ ≠ ((.slice Ao24 t114.length co24) : Value).ownBlock ∧ some k_ ≠ ((.slice Ao32 t149.length co32) : Value).ownBlock ∧ some k_ ≠ ((.slice Ao40 t132.length co40) : Value).ownBlock) (.slice Ao148 t166.length co148) t166) ∧ Aside0 (wc.heap[gb101]? = some (.cells #[.int .i64 a0_0, (.slice A0_1 l0_1.length c0_1), (.slice A0_2 l0_2.length c0_2)] 25 (0, 0))) ∧ Aside0 (wc.heap[gb119]? = some (.cells #[.int .i64 t110, (.slice Ao23 t111.length co23), (.slice Ao24 t114.length co24)] 31 (0, 0))) ∧ Aside0 (wc.heap[gb127]? = some (.cells #[.int .i64 t120, (.slice Ao31 t148.length co31), (.slice Ao32 t149.length co32)] 31 (0, 0))) ∧ Aside0 (wc.heap[gb137]? = some (.cells #[.int .i64 t128, (.slice Ao39 t129.length co39), (.slice Ao40 t132.length co40)] 31 (0, 0))) ∧ Aside0 (wc.heap[gb171]? = some (.cells #[.int .i64 t162, (.slice Ao147 t163.length co147), (.slice Ao148 t166.length co148)] 31 (0, 0))) ∧ Aside0 (Below w.heap.size w wc))
           case first =>
            have H := HC126.out
            clear HC126
            replace H := Option.bind_eq_some_iff.mp H
            obtain ⟨t172, A1490, H⟩ := H
            replace H : (if t172 = true then (if t169 = t117 then (laws_FnExactSendNext.j2 kj72 t151 (t170 != t118) t128 t152 t153) else (laws_FnExactSendNext.j2 kj72 t151 true t128 t152 t153)) else (laws_FnExactSendNext.j2 kj72 t151 true t128 t152 t153)) = some r := H
            have A149 := sA A1490
            clear A1490
            by_cases c150 : t172 = true
            ·subst c150
             have H1 : (if t169 = t117 then (laws_FnExactSendNext.j2 kj72 t151 (t170 != t118) t128 t152 t153) else (laws_FnExactSendNext.j2 kj72 t151 true t128 t152 t153)) = some r := by rw [if_pos rfl] at H; exact H
             clear H
             have H := H1
             clear H1
             by_cases c151 : t169 = t117
             ·rw [if_pos c151] at H
              have c151b0 : (t169 == t117) = true := beq_iff_eq.mpr c151
              have c151b1 : (t169 != t117) = false := bne_eq_false_iff_eq.mpr c151
              clear c151
              (first | rw [c151b0] | (simp only [i64_w, i32_w]; rw [c151b0]) | skip)
              have H' := sA H
              clear H
              have hnb152 := NB171_101.out
              have hnc152 := NB101_171.out
              have hnb153 := NB171_119.out
              have hnc153 := NB119_171.out
              have hnb154 := NB171_127.out
              have hnc154 := NB127_171.out
              have hnb155 := NB171_137.out
              have hnc155 := NB137_171.out
              have hcz156_0 : w141.cell? ⟨gb171, 0, none⟩ = some (.int .i64 0) := (blk_cell BK171.out 0).trans rfl
              have hcz156_1 : w141.cell? ⟨gb171, 1, none⟩ = some (.slice none 0 0) := (blk_cell BK171.out 1).trans rfl
              have hcz156_2 : w141.cell? ⟨gb171, 2, none⟩ = some (.slice none 0 0) := (blk_cell BK171.out 2).trans rfl
              have hfz156_0 := blk_frozen BK171.out 0
              have hfz156_1 := blk_frozen BK171.out 1
              have hfz156_2 := blk_frozen BK171.out 2
              have hnb157 := NB119_101.out
              have hnc157 := NB101_119.out
              have hnb158 := NB119_127.out
              have hnc158 := NB127_119.out
              have hnb159 := NB119_137.out
              have hnc159 := NB137_119.out
              have hcz160_0 : w141.cell? ⟨gb119, 0, none⟩ = some (.int .i64 t110) := (blk_cell BK119.out 0).trans rfl
              have hcz160_1 : w141.cell? ⟨gb119, 1, none⟩ = some (.slice Ao23 t111.length co23) := (blk_cell BK119.out 1).trans rfl
              have hcz160_2 : w141.cell? ⟨gb119, 2, none⟩ = some (.slice Ao24 t114.length co24) := (blk_cell BK119.out 2).trans rfl
              have hfz160_0 := blk_frozen BK119.out 0
              have hfz160_1 := blk_frozen BK119.out 1
              have hfz160_2 := blk_frozen BK119.out 2
              go_wp2_with (first | ((with_reducible refine gate_callee (f := 13) rfl ?_); refine goesL_ (some 97) rfl rfl Try.func13 (by kernel_rfl) rfl #[.agg #[.int .i64 t162, .slice Ao147 t163.length co147, .slice Ao148 t166.length co148], .agg #[.int .i64 t110, .slice Ao23 t111.length co23, .slice Ao24 t114.length co24]] rfl (by (try simp only [List.map_toArray, List.map_cons, List.map_nil]); first | done | rfl | (simp only [List.length_drop, List.length_take]; rfl)) ?_; (with_reducible refine (laws_eqSender.calls kj72 t162 _ _ t163 _ _ t166 t110 _ _ t111 _ _ t114 true _ ?side1 ?side2 ?side3 ?side4 ?side5 ?side6 ?side7 ?side8 A149.out).mono ?_); (case side1 => refine (Kd.R_reads' (e := 59) (base := w.heap.size) (ok := fun k_ => ((((True ∧ some k_ ≠ (.slice Ao23 t111.length co23 : Value).ownBlock) ∧ some k_ ≠ (.slice Ao31 t148.length co31 : Value).ownBlock) ∧ some k_ ≠ (.slice Ao39 t129.length co39 : Value).ownBlock) ∧ some k_ ≠ (.slice Ao138 t156.length co138 : Value).ownBlock)) (n := t163.length) (c := co147) ?_).2.2; exact (sR (Kd.R_mono (Kd.R_far (p := ⟨gb171, 2, none⟩) (Kd.R_far (p := ⟨gb171, 1, none⟩) (Kd.R_far (p := ⟨gb171, 0, none⟩) (Kd.R_types HO165.out BK171.out (by decide)) (fun _ hk => hk.2) (.int .i64 t162)) (fun _ hk => hk.2) (.slice Ao147 t163.length co147)) (fun _ hk => hk.2) (.slice Ao148 t166.length co148)) (fun _ h_ => h_.1)))); (case side2 => exact (Kd.R_reads' HO165.out).2.1); (case side3 => refine (Kd.R_reads' (e := 3) (base := w.heap.size) (ok := fun k_ => ((((True ∧ some k_ ≠ (.slice Ao24 t114.length co24 : Value).ownBlock) ∧ some k_ ≠ (.slice Ao32 t149.length co32 : Value).ownBlock) ∧ some k_ ≠ (.slice Ao40 t132.length co40 : Value).ownBlock) ∧ some k_ ≠ (.slice Ao139 t159.length co139 : Value).ownBlock)) (n := t166.length) (c := co148) ?_).2.2; exact (sR (Kd.R_mono (Kd.R_far (p := ⟨gb171, 2, none⟩) (Kd.R_far (p := ⟨gb171, 1, none⟩) (Kd.R_far (p := ⟨gb171, 0, none⟩) (Kd.R_types HO168.out BK171.out (by decide)) (fun _ hk => hk.2) (.int .i64 t162)) (fun _ hk => hk.2) (.slice Ao147 t163.length co147)) (fun _ hk => hk.2) (.slice Ao148 t166.length co148)) (fun _ h_ => h_.1)))); (case side4 => exact (Kd.R_reads' HO168.out).2.1); (case side5 => refine (Kd.R_reads' (e := 59) (base := w.heap.size) (ok := fun k_ => (((some k_ ≠ (.slice Ao31 t148.length co31 : Value).ownBlock ∧ some k_ ≠ (.slice Ao39 t129.length co39 : Value).ownBlock) ∧ some k_ ≠ (.slice Ao138 t156.length co138 : Value).ownBlock) ∧ some k_ ≠ (.slice Ao147 t163.length co147 : Value).ownBlock)) (n := t111.length) (c := co23) ?_).2.2; exact (sR (Kd.R_mono (Kd.R_far (p := ⟨gb171, 2, none⟩) (Kd.R_far (p := ⟨gb171, 1, none⟩) (Kd.R_far (p := ⟨gb171, 0, none⟩) (Kd.R_types HO_120001.out BK171.out (by decide)) (fun _ hk => hk.2) (.int .i64 t162)) (fun _ hk => hk.2) (.slice Ao147 t163.length co147)) (fun _ hk => hk.2) (.slice Ao148 t166.length co148)) (fun _ h_ => h_.1)))); (case side6 => exact (Kd.R_reads' HO_120001.out).2.1); (case side7 => refine (Kd.R_reads' (e := 3) (base := w.heap.size) (ok := fun k_ => (((some k_ ≠ (.slice Ao32 t149.length co32 : Value).ownBlock ∧ some k_ ≠ (.slice Ao40 t132.length co40 : Value).ownBlock) ∧ some k_ ≠ (.slice Ao139 t159.length co139 : Value).ownBlock) ∧ some k_ ≠ (.slice Ao148 t166.length co148 : Value).ownBlock)) (n := t114.length) (c := co24) ?_).2.2; exact (sR (Kd.R_mono (Kd.R_far (p := ⟨gb171, 2, none⟩) (Kd.R_far (p := ⟨gb171, 1, none⟩) (Kd.R_far (p := ⟨gb171, 0, none⟩) (Kd.R_types HO_120002.out BK171.out (by decide)) (fun _ hk => hk.2) (.int .i64 t162)) (fun _ hk => hk.2) (.slice Ao147 t163.length co147)) (fun _ hk => hk.2) (.slice Ao148 t166.length co148)) (fun _ h_ => h_.1)))); (case side8 => exact (Kd.R_reads' HO_120002.out).2.1); rintro e w161 ⟨rfl, hb⟩; refine ⟨_, rfl, ?_⟩; have n0_ := sA (Kd.R_below (sR (Kd.R_mono (Kd.R_far (p := ⟨gb171, 2, none⟩) (Kd.R_far (p := ⟨gb171, 1, none⟩) (Kd.R_far (p := ⟨gb171, 0, none⟩) (Kd.R_types HO_120001.out BK171.out (by decide)) (fun _ hk => hk.2) (.int .i64 t162)) (fun _ hk => hk.2) (.slice Ao147 t163.length co147)) (fun _ hk => hk.2) (.slice Ao148 t166.length co148)) (fun _ h_ => h_.1))) hb); have n1_ := sA (Kd.R_below (sR (Kd.R_mono (Kd.R_far (p := ⟨gb171, 2, none⟩) (Kd.R_far (p := ⟨gb171, 1, none⟩) (Kd.R_far (p := ⟨gb171, 0, none⟩) (Kd.R_types HO_120002.out BK171.out (by decide)) (fun _ hk => hk.2) (.int .i64 t162)) (fun _ hk => hk.2) (.slice Ao147 t163.length co147)) (fun _ hk => hk.2) (.slice Ao148 t166.length co148)) (fun _ h_ => h_.1))) hb); have n2_ := sA (Kd.R_below (sR (Kd.R_mono (Kd.R_far (p := ⟨gb171, 2, none⟩) (Kd.R_far (p := ⟨gb171, 1, none⟩) (Kd.R_far (p := ⟨gb171, 0, none⟩) (Kd.R_types HO_128001.out BK171.out (by decide)) (fun _ hk => hk.2) (.int .i64 t162)) (fun _ hk => hk.2) (.slice Ao147 t163.length co147)) (fun _ hk => hk.2) (.slice Ao148 t166.length co148)) (fun _ h_ => h_.1))) hb); have n3_ := sA (Kd.R_below (sR (Kd.R_mono (Kd.R_far (p := ⟨gb171, 2, none⟩) (Kd.R_far (p := ⟨gb171, 1, none⟩) (Kd.R_far (p := ⟨gb171, 0, none⟩) (Kd.R_types HO_128002.out BK171.out (by decide)) (fun _ hk => hk.2) (.int .i64 t162)) (fun _ hk => hk.2) (.slice Ao147 t163.length co147)) (fun _ hk => hk.2) (.slice Ao148 t166.length co148)) (fun _ h_ => h_.1))) hb); have n4_ := sA (Kd.R_below (sR (Kd.R_mono (Kd.R_far (p := ⟨gb171, 2, none⟩) (Kd.R_far (p := ⟨gb171, 1, none⟩) (Kd.R_far (p := ⟨gb171, 0, none⟩) (Kd.R_types HO_138001.out BK171.out (by decide)) (fun _ hk => hk.2) (.int .i64 t162)) (fun _ hk => hk.2) (.slice Ao147 t163.length co147)) (fun _ hk => hk.2) (.slice Ao148 t166.length co148)) (fun _ h_ => h_.1))) hb); have n5_ := sA (Kd.R_below (sR (Kd.R_mono (Kd.R_far (p := ⟨gb171, 2, none⟩) (Kd.R_far (p := ⟨gb171, 1, none⟩) (Kd.R_far (p := ⟨gb171, 0, none⟩) (Kd.R_types HO_138002.out BK171.out (by decide)) (fun _ hk => hk.2) (.int .i64 t162)) (fun _ hk => hk.2) (.slice Ao147 t163.length co147)) (fun _ hk => hk.2) (.slice Ao148 t166.length co148)) (fun _ h_ => h_.1))) hb); have n6_ := sA (Kd.R_below (sR (Kd.R_mono (Kd.R_far (p := ⟨gb171, 2, none⟩) (Kd.R_far (p := ⟨gb171, 1, none⟩) (Kd.R_far (p := ⟨gb171, 0, none⟩) (Kd.R_types HO158.out BK171.out (by decide)) (fun _ hk => hk.2) (.int .i64 t162)) (fun _ hk => hk.2) (.slice Ao147 t163.length co147)) (fun _ hk => hk.2) (.slice Ao148 t166.length co148)) (fun _ h_ => h_.1))) hb); have n7_ := sA (Kd.R_below (sR (Kd.R_mono (Kd.R_far (p := ⟨gb171, 2, none⟩) (Kd.R_far (p := ⟨gb171, 1, none⟩) (Kd.R_far (p := ⟨gb171, 0, none⟩) (Kd.R_types HO161.out BK171.out (by decide)) (fun _ hk => hk.2) (.int .i64 t162)) (fun _ hk => hk.2) (.slice Ao147 t163.length co147)) (fun _ hk => hk.2) (.slice Ao148 t166.length co148)) (fun _ h_ => h_.1))) hb); have n8_ := sA (Kd.R_below (sR (Kd.R_mono (Kd.R_far (p := ⟨gb171, 2, none⟩) (Kd.R_far (p := ⟨gb171, 1, none⟩) (Kd.R_far (p := ⟨gb171, 0, none⟩) (Kd.R_types HO165.out BK171.out (by decide)) (fun _ hk => hk.2) (.int .i64 t162)) (fun _ hk => hk.2) (.slice Ao147 t163.length co147)) (fun _ hk => hk.2) (.slice Ao148 t166.length co148)) (fun _ h_ => h_.1))) hb); have n9_ := sA (Kd.R_below (sR (Kd.R_mono (Kd.R_far (p := ⟨gb171, 2, none⟩) (Kd.R_far (p := ⟨gb171, 1, none⟩) (Kd.R_far (p := ⟨gb171, 0, none⟩) (Kd.R_types HO168.out BK171.out (by decide)) (fun _ hk => hk.2) (.int .i64 t162)) (fun _ hk => hk.2) (.slice Ao147 t163.length co147)) (fun _ hk => hk.2) (.slice Ao148 t166.length co148)) (fun _ h_ => h_.1))) hb); have n10_ := sA (blk_below (g := gb101) (o := .cells #[.int .i64 a0_0, .slice A0_1 l0_1.length c0_1, .slice A0_2 l0_2.length c0_2] 25 (0, 0)) (by (with_reducible repeat first | apply blk_drewN | apply blk_drew | apply blk_alloc); refine blk_far ?_ NB101_171.out _; (with_reducible repeat first | apply blk_drewN | apply blk_drew | apply blk_alloc); refine blk_far ?_ NB101_171.out _; (with_reducible repeat first | apply blk_drewN | apply blk_drew | apply blk_alloc); refine blk_far ?_ NB101_171.out _; (with_reducible repeat first | apply blk_drewN | apply blk_drew | apply blk_alloc); exact BK101.out) hb); have n11_ := sA (blk_below (g := gb119) (o := .cells #[.int .i64 t110, .slice Ao23 t111.length co23, .slice Ao24 t114.length co24] 31 (0, 0)) (by (with_reducible repeat first | apply blk_drewN | apply blk_drew | apply blk_alloc); refine blk_far ?_ NB119_171.out _; (with_reducible repeat first | apply blk_drewN | apply blk_drew | apply blk_alloc); refine blk_far ?_ NB119_171.out _; (with_reducible repeat first | apply blk_drewN | apply blk_drew | apply blk_alloc); refine blk_far ?_ NB119_171.out _; (with_reducible repeat first | apply blk_drewN | apply blk_drew | apply blk_alloc); exact BK119.out) hb); have n12_ := sA (blk_below (g := gb127) (o := .cells #[.int .i64 t120, .slice Ao31 t148.length co31, .slice Ao32 t149.length co32] 31 (0, 0)) (by (with_reducible repeat first | apply blk_drewN | apply blk_drew | apply blk_alloc); refine blk_far ?_ NB127_171.out _; (with_reducible repeat first | apply blk_drewN | apply blk_drew | apply blk_alloc); refine blk_far ?_ NB127_171.out _; (with_reducible repeat first | apply blk_drewN | apply blk_drew | apply blk_alloc); refine blk_far ?_ NB127_171.out _; (with_reducible repeat first | apply blk_drewN | apply blk_drew | apply blk_alloc); exact BK127.out) hb); have n13_ := sA (blk_below (g := gb137) (o := .cells #[.int .i64 t128, .slice Ao39 t129.length co39, .slice Ao40 t132.length co40] 31 (0, 0)) (by (with_reducible repeat first | apply blk_drewN | apply blk_drew | apply blk_alloc); refine blk_far ?_ NB137_171.out _; (with_reducible repeat first | apply blk_drewN | apply blk_drew | apply blk_alloc); refine blk_far ?_ NB137_171.out _; (with_reducible repeat first | apply blk_drewN | apply blk_drew | apply blk_alloc); refine blk_far ?_ NB137_171.out _; (with_reducible repeat first | apply blk_drewN | apply blk_drew | apply blk_alloc); exact BK137.out) hb); have n14_ := sA (blk_below (g := gb171) (o := .cells #[.int .i64 t162, .slice Ao147 t163.length co147, .slice Ao148 t166.length co148] 31 (0, 0)) (by (with_reducible repeat first | apply blk_drewN | apply blk_drew | apply blk_alloc); refine blk_put (cs := #[.int .i64 t162, .slice Ao147 t163.length co147, .slice none 0 0]) ?_ 2 _ rfl; (with_reducible repeat first | apply blk_drewN | apply blk_drew | apply blk_alloc); refine blk_put (cs := #[.int .i64 t162, .slice none 0 0, .slice none 0 0]) ?_ 1 _ rfl; (with_reducible repeat first | apply blk_drewN | apply blk_drew | apply blk_alloc); refine blk_put (cs := #[.int .i64 0, .slice none 0 0, .slice none 0 0]) ?_ 0 _ rfl; (with_reducible repeat first | apply blk_drewN | apply blk_drew | apply blk_alloc); exact BK171.out) hb); have n15_ := sA (below_step (by repeat (first | (with_reducible first | exact HB.out | apply below_alloc | apply pw_below_drewN | apply below_drew1 | refine below_set ?_ (Aside0.out (by assumption))) | exact HB.out)) hb); clear HO_120001; clear HO_120002; clear HO_128001; clear HO_128002; clear HO_138001; clear HO_138002; clear HO158; clear HO161; clear HO165; clear HO168; clear BK101; clear BK119; clear BK127; clear BK137; clear BK171; clear HB; have HO_120001 := n0_; have HO_120002 := n1_; have HO_128001 := n2_; have HO_128002 := n3_; have HO_138001 := n4_; have HO_138002 := n5_; have HO158 := n6_; have HO161 := n7_; have HO165 := n8_; have HO168 := n9_; have BK101 := n10_; have BK119 := n11_; have BK127 := n12_; have BK137 := n13_; have BK171 := n14_; have HB := n15_; clear n0_ n1_ n2_ n3_ n4_ n5_ n6_ n7_ n8_ n9_ n10_ n11_ n12_ n13_ n14_ n15_; (try clear hb); (try clear hb2); (try clear hk); (try clear hi)))
              go_meet
              case rel => exact ⟨_, ((t170 != t118)), (by first | rfl | (simp; done) | (simp [*]; done)), H', ⟨by have := HJ10.out; have := HJ72.out; first | omega | exact Nat.le_refl _⟩, ⟨by (try simp only [hl128001_72]); (try simp only [hl128002_72]); (with_reducible repeat (first | apply Kd.R_alloc | apply Kd.R_drewN | apply Kd.R_drew)); exact Kd.R_mono HO_120001.out (fun _ hk => ⟨hk.1.1.1, ⟨hk.1.1.2, hk.2⟩⟩)⟩, ⟨by (try simp only [hl128001_72]); (try simp only [hl128002_72]); (with_reducible repeat (first | apply Kd.R_alloc | apply Kd.R_drewN | apply Kd.R_drew)); exact Kd.R_mono HO_120002.out (fun _ hk => ⟨hk.1.1.1, ⟨hk.1.1.2, hk.2⟩⟩)⟩, ⟨by (try simp only [hl128001_72]); (try simp only [hl128002_72]); (with_reducible repeat (first | apply Kd.R_alloc | apply Kd.R_drewN | apply Kd.R_drew)); exact Kd.R_mono HO_128001.out (fun _ hk => ⟨hk.1.1.1, ⟨hk.1.1.2, hk.2⟩⟩)⟩, ⟨by (try simp only [hl128001_72]); (try simp only [hl128002_72]); (with_reducible repeat (first | apply Kd.R_alloc | apply Kd.R_drewN | apply Kd.R_drew)); exact Kd.R_mono HO_128002.out (fun _ hk => ⟨hk.1.1.1, ⟨hk.1.1.2, hk.2⟩⟩)⟩, ⟨by (try simp only [hl128001_72]); (try simp only [hl128002_72]); (with_reducible repeat (first | apply Kd.R_alloc | apply Kd.R_drewN | apply Kd.R_drew)); exact Kd.R_mono HO_138001.out (fun _ hk => ⟨hk.1.1.1, ⟨hk.1.1.2, hk.2⟩⟩)⟩, ⟨by (try simp only [hl128001_72]); (try simp only [hl128002_72]); (with_reducible repeat (first | apply Kd.R_alloc | apply Kd.R_drewN | apply Kd.R_drew)); exact Kd.R_mono HO_138002.out (fun _ hk => ⟨hk.1.1.1, ⟨hk.1.1.2, hk.2⟩⟩)⟩, ⟨by (try simp only [hl128001_72]); (try simp only [hl128002_72]); (with_reducible repeat (first | apply Kd.R_alloc | apply Kd.R_drewN | apply Kd.R_drew)); exact Kd.R_mono HO165.out (fun _ hk => ⟨hk.1.1.1.2, ⟨hk.1.1.2, hk.1.2⟩⟩)⟩, ⟨by (try simp only [hl128001_72]); (try simp only [hl128002_72]); (with_reducible repeat (first | apply Kd.R_alloc | apply Kd.R_drewN | apply Kd.R_drew)); exact Kd.R_mono HO168.out (fun _ hk => ⟨hk.1.1.1.2, ⟨hk.1.1.2, hk.1.2⟩⟩)⟩, ⟨by (try simp only [hl128001_72]); (try simp only [hl128002_72]); (with_reducible repeat first | apply blk_drewN | apply blk_drew | apply blk_alloc); exact BK101.out⟩, ⟨by (try simp only [hl128001_72]); (try simp only [hl128002_72]); (with_reducible repeat first | apply blk_drewN | apply blk_drew | apply blk_alloc); exact BK119.out⟩, ⟨by (try simp only [hl128001_72]); (try simp only [hl128002_72]); (with_reducible repeat first | apply blk_drewN | apply blk_drew | apply blk_alloc); exact BK127.out⟩, ⟨by (try simp only [hl128001_72]); (try simp only [hl128002_72]); (with_reducible repeat first | apply blk_drewN | apply blk_drew | apply blk_alloc); exact BK137.out⟩, ⟨by (try simp only [hl128001_72]); (try simp only [hl128002_72]); (with_reducible repeat first | apply blk_drewN | apply blk_drew | apply blk_alloc); exact BK171.out⟩, ⟨by repeat (first | (with_reducible first | exact HB.out | apply below_alloc | apply pw_below_drewN | apply below_drew1 | refine below_set ?_ GE101.out | refine below_set ?_ GE119.out | refine below_set ?_ GE127.out | refine below_set ?_ GE137.out | refine below_set ?_ GE171.out) | exact HB.out)⟩⟩
             ·rw [if_neg c151] at H
              have c151b0 : (t169 == t117) = false := beq_eq_false_iff_ne.mpr c151
              have c151b1 : (t169 != t117) = true := bne_iff_ne.mpr c151
              (first | rw [c151b0] | (simp only [i64_w, i32_w]; rw [c151b0]) | skip)
              have H' := sA H
              clear H
              have hnb162 := NB171_101.out
              have hnc162 := NB101_171.out
              have hnb163 := NB171_119.out
              have hnc163 := NB119_171.out
              have hnb164 := NB171_127.out
              have hnc164 := NB127_171.out
              have hnb165 := NB171_137.out
              have hnc165 := NB137_171.out
              have hcz166_0 : w141.cell? ⟨gb171, 0, none⟩ = some (.int .i64 0) := (blk_cell BK171.out 0).trans rfl
              have hcz166_1 : w141.cell? ⟨gb171, 1, none⟩ = some (.slice none 0 0) := (blk_cell BK171.out 1).trans rfl
              have hcz166_2 : w141.cell? ⟨gb171, 2, none⟩ = some (.slice none 0 0) := (blk_cell BK171.out 2).trans rfl
              have hfz166_0 := blk_frozen BK171.out 0
              have hfz166_1 := blk_frozen BK171.out 1
              have hfz166_2 := blk_frozen BK171.out 2
              have hnb167 := NB119_101.out
              have hnc167 := NB101_119.out
              have hnb168 := NB119_127.out
              have hnc168 := NB127_119.out
              have hnb169 := NB119_137.out
              have hnc169 := NB137_119.out
              have hcz170_0 : w141.cell? ⟨gb119, 0, none⟩ = some (.int .i64 t110) := (blk_cell BK119.out 0).trans rfl
              have hcz170_1 : w141.cell? ⟨gb119, 1, none⟩ = some (.slice Ao23 t111.length co23) := (blk_cell BK119.out 1).trans rfl
              have hcz170_2 : w141.cell? ⟨gb119, 2, none⟩ = some (.slice Ao24 t114.length co24) := (blk_cell BK119.out 2).trans rfl
              have hfz170_0 := blk_frozen BK119.out 0
              have hfz170_1 := blk_frozen BK119.out 1
              have hfz170_2 := blk_frozen BK119.out 2
              go_wp2_with (first | ((with_reducible refine gate_callee (f := 13) rfl ?_); refine goesL_ (some 97) rfl rfl Try.func13 (by kernel_rfl) rfl #[.agg #[.int .i64 t162, .slice Ao147 t163.length co147, .slice Ao148 t166.length co148], .agg #[.int .i64 t110, .slice Ao23 t111.length co23, .slice Ao24 t114.length co24]] rfl (by (try simp only [List.map_toArray, List.map_cons, List.map_nil]); first | done | rfl | (simp only [List.length_drop, List.length_take]; rfl)) ?_; (with_reducible refine (laws_eqSender.calls kj72 t162 _ _ t163 _ _ t166 t110 _ _ t111 _ _ t114 true _ ?side1 ?side2 ?side3 ?side4 ?side5 ?side6 ?side7 ?side8 A149.out).mono ?_); (case side1 => refine (Kd.R_reads' (e := 59) (base := w.heap.size) (ok := fun k_ => ((((True ∧ some k_ ≠ (.slice Ao23 t111.length co23 : Value).ownBlock) ∧ some k_ ≠ (.slice Ao31 t148.length co31 : Value).ownBlock) ∧ some k_ ≠ (.slice Ao39 t129.length co39 : Value).ownBlock) ∧ some k_ ≠ (.slice Ao138 t156.length co138 : Value).ownBlock)) (n := t163.length) (c := co147) ?_).2.2; exact (sR (Kd.R_mono (Kd.R_far (p := ⟨gb171, 2, none⟩) (Kd.R_far (p := ⟨gb171, 1, none⟩) (Kd.R_far (p := ⟨gb171, 0, none⟩) (Kd.R_types HO165.out BK171.out (by decide)) (fun _ hk => hk.2) (.int .i64 t162)) (fun _ hk => hk.2) (.slice Ao147 t163.length co147)) (fun _ hk => hk.2) (.slice Ao148 t166.length co148)) (fun _ h_ => h_.1)))); (case side2 => exact (Kd.R_reads' HO165.out).2.1); (case side3 => refine (Kd.R_reads' (e := 3) (base := w.heap.size) (ok := fun k_ => ((((True ∧ some k_ ≠ (.slice Ao24 t114.length co24 : Value).ownBlock) ∧ some k_ ≠ (.slice Ao32 t149.length co32 : Value).ownBlock) ∧ some k_ ≠ (.slice Ao40 t132.length co40 : Value).ownBlock) ∧ some k_ ≠ (.slice Ao139 t159.length co139 : Value).ownBlock)) (n := t166.length) (c := co148) ?_).2.2; exact (sR (Kd.R_mono (Kd.R_far (p := ⟨gb171, 2, none⟩) (Kd.R_far (p := ⟨gb171, 1, none⟩) (Kd.R_far (p := ⟨gb171, 0, none⟩) (Kd.R_types HO168.out BK171.out (by decide)) (fun _ hk => hk.2) (.int .i64 t162)) (fun _ hk => hk.2) (.slice Ao147 t163.length co147)) (fun _ hk => hk.2) (.slice Ao148 t166.length co148)) (fun _ h_ => h_.1)))); (case side4 => exact (Kd.R_reads' HO168.out).2.1); (case side5 => refine (Kd.R_reads' (e := 59) (base := w.heap.size) (ok := fun k_ => (((some k_ ≠ (.slice Ao31 t148.length co31 : Value).ownBlock ∧ some k_ ≠ (.slice Ao39 t129.length co39 : Value).ownBlock) ∧ some k_ ≠ (.slice Ao138 t156.length co138 : Value).ownBlock) ∧ some k_ ≠ (.slice Ao147 t163.length co147 : Value).ownBlock)) (n := t111.length) (c := co23) ?_).2.2; exact (sR (Kd.R_mono (Kd.R_far (p := ⟨gb171, 2, none⟩) (Kd.R_far (p := ⟨gb171, 1, none⟩) (Kd.R_far (p := ⟨gb171, 0, none⟩) (Kd.R_types HO_120001.out BK171.out (by decide)) (fun _ hk => hk.2) (.int .i64 t162)) (fun _ hk => hk.2) (.slice Ao147 t163.length co147)) (fun _ hk => hk.2) (.slice Ao148 t166.length co148)) (fun _ h_ => h_.1)))); (case side6 => exact (Kd.R_reads' HO_120001.out).2.1); (case side7 => refine (Kd.R_reads' (e := 3) (base := w.heap.size) (ok := fun k_ => (((some k_ ≠ (.slice Ao32 t149.length co32 : Value).ownBlock ∧ some k_ ≠ (.slice Ao40 t132.length co40 : Value).ownBlock) ∧ some k_ ≠ (.slice Ao139 t159.length co139 : Value).ownBlock) ∧ some k_ ≠ (.slice Ao148 t166.length co148 : Value).ownBlock)) (n := t114.length) (c := co24) ?_).2.2; exact (sR (Kd.R_mono (Kd.R_far (p := ⟨gb171, 2, none⟩) (Kd.R_far (p := ⟨gb171, 1, none⟩) (Kd.R_far (p := ⟨gb171, 0, none⟩) (Kd.R_types HO_120002.out BK171.out (by decide)) (fun _ hk => hk.2) (.int .i64 t162)) (fun _ hk => hk.2) (.slice Ao147 t163.length co147)) (fun _ hk => hk.2) (.slice Ao148 t166.length co148)) (fun _ h_ => h_.1)))); (case side8 => exact (Kd.R_reads' HO_120002.out).2.1); rintro e w171 ⟨rfl, hb⟩; refine ⟨_, rfl, ?_⟩; have n0_ := sA (Kd.R_below (sR (Kd.R_mono (Kd.R_far (p := ⟨gb171, 2, none⟩) (Kd.R_far (p := ⟨gb171, 1, none⟩) (Kd.R_far (p := ⟨gb171, 0, none⟩) (Kd.R_types HO_120001.out BK171.out (by decide)) (fun _ hk => hk.2) (.int .i64 t162)) (fun _ hk => hk.2) (.slice Ao147 t163.length co147)) (fun _ hk => hk.2) (.slice Ao148 t166.length co148)) (fun _ h_ => h_.1))) hb); have n1_ := sA (Kd.R_below (sR (Kd.R_mono (Kd.R_far (p := ⟨gb171, 2, none⟩) (Kd.R_far (p := ⟨gb171, 1, none⟩) (Kd.R_far (p := ⟨gb171, 0, none⟩) (Kd.R_types HO_120002.out BK171.out (by decide)) (fun _ hk => hk.2) (.int .i64 t162)) (fun _ hk => hk.2) (.slice Ao147 t163.length co147)) (fun _ hk => hk.2) (.slice Ao148 t166.length co148)) (fun _ h_ => h_.1))) hb); have n2_ := sA (Kd.R_below (sR (Kd.R_mono (Kd.R_far (p := ⟨gb171, 2, none⟩) (Kd.R_far (p := ⟨gb171, 1, none⟩) (Kd.R_far (p := ⟨gb171, 0, none⟩) (Kd.R_types HO_128001.out BK171.out (by decide)) (fun _ hk => hk.2) (.int .i64 t162)) (fun _ hk => hk.2) (.slice Ao147 t163.length co147)) (fun _ hk => hk.2) (.slice Ao148 t166.length co148)) (fun _ h_ => h_.1))) hb); have n3_ := sA (Kd.R_below (sR (Kd.R_mono (Kd.R_far (p := ⟨gb171, 2, none⟩) (Kd.R_far (p := ⟨gb171, 1, none⟩) (Kd.R_far (p := ⟨gb171, 0, none⟩) (Kd.R_types HO_128002.out BK171.out (by decide)) (fun _ hk => hk.2) (.int .i64 t162)) (fun _ hk => hk.2) (.slice Ao147 t163.length co147)) (fun _ hk => hk.2) (.slice Ao148 t166.length co148)) (fun _ h_ => h_.1))) hb); have n4_ := sA (Kd.R_below (sR (Kd.R_mono (Kd.R_far (p := ⟨gb171, 2, none⟩) (Kd.R_far (p := ⟨gb171, 1, none⟩) (Kd.R_far (p := ⟨gb171, 0, none⟩) (Kd.R_types HO_138001.out BK171.out (by decide)) (fun _ hk => hk.2) (.int .i64 t162)) (fun _ hk => hk.2) (.slice Ao147 t163.length co147)) (fun _ hk => hk.2) (.slice Ao148 t166.length co148)) (fun _ h_ => h_.1))) hb); have n5_ := sA (Kd.R_below (sR (Kd.R_mono (Kd.R_far (p := ⟨gb171, 2, none⟩) (Kd.R_far (p := ⟨gb171, 1, none⟩) (Kd.R_far (p := ⟨gb171, 0, none⟩) (Kd.R_types HO_138002.out BK171.out (by decide)) (fun _ hk => hk.2) (.int .i64 t162)) (fun _ hk => hk.2) (.slice Ao147 t163.length co147)) (fun _ hk => hk.2) (.slice Ao148 t166.length co148)) (fun _ h_ => h_.1))) hb); have n6_ := sA (Kd.R_below (sR (Kd.R_mono (Kd.R_far (p := ⟨gb171, 2, none⟩) (Kd.R_far (p := ⟨gb171, 1, none⟩) (Kd.R_far (p := ⟨gb171, 0, none⟩) (Kd.R_types HO158.out BK171.out (by decide)) (fun _ hk => hk.2) (.int .i64 t162)) (fun _ hk => hk.2) (.slice Ao147 t163.length co147)) (fun _ hk => hk.2) (.slice Ao148 t166.length co148)) (fun _ h_ => h_.1))) hb); have n7_ := sA (Kd.R_below (sR (Kd.R_mono (Kd.R_far (p := ⟨gb171, 2, none⟩) (Kd.R_far (p := ⟨gb171, 1, none⟩) (Kd.R_far (p := ⟨gb171, 0, none⟩) (Kd.R_types HO161.out BK171.out (by decide)) (fun _ hk => hk.2) (.int .i64 t162)) (fun _ hk => hk.2) (.slice Ao147 t163.length co147)) (fun _ hk => hk.2) (.slice Ao148 t166.length co148)) (fun _ h_ => h_.1))) hb); have n8_ := sA (Kd.R_below (sR (Kd.R_mono (Kd.R_far (p := ⟨gb171, 2, none⟩) (Kd.R_far (p := ⟨gb171, 1, none⟩) (Kd.R_far (p := ⟨gb171, 0, none⟩) (Kd.R_types HO165.out BK171.out (by decide)) (fun _ hk => hk.2) (.int .i64 t162)) (fun _ hk => hk.2) (.slice Ao147 t163.length co147)) (fun _ hk => hk.2) (.slice Ao148 t166.length co148)) (fun _ h_ => h_.1))) hb); have n9_ := sA (Kd.R_below (sR (Kd.R_mono (Kd.R_far (p := ⟨gb171, 2, none⟩) (Kd.R_far (p := ⟨gb171, 1, none⟩) (Kd.R_far (p := ⟨gb171, 0, none⟩) (Kd.R_types HO168.out BK171.out (by decide)) (fun _ hk => hk.2) (.int .i64 t162)) (fun _ hk => hk.2) (.slice Ao147 t163.length co147)) (fun _ hk => hk.2) (.slice Ao148 t166.length co148)) (fun _ h_ => h_.1))) hb); have n10_ := sA (blk_below (g := gb101) (o := .cells #[.int .i64 a0_0, .slice A0_1 l0_1.length c0_1, .slice A0_2 l0_2.length c0_2] 25 (0, 0)) (by (with_reducible repeat first | apply blk_drewN | apply blk_drew | apply blk_alloc); refine blk_far ?_ NB101_171.out _; (with_reducible repeat first | apply blk_drewN | apply blk_drew | apply blk_alloc); refine blk_far ?_ NB101_171.out _; (with_reducible repeat first | apply blk_drewN | apply blk_drew | apply blk_alloc); refine blk_far ?_ NB101_171.out _; (with_reducible repeat first | apply blk_drewN | apply blk_drew | apply blk_alloc); exact BK101.out) hb); have n11_ := sA (blk_below (g := gb119) (o := .cells #[.int .i64 t110, .slice Ao23 t111.length co23, .slice Ao24 t114.length co24] 31 (0, 0)) (by (with_reducible repeat first | apply blk_drewN | apply blk_drew | apply blk_alloc); refine blk_far ?_ NB119_171.out _; (with_reducible repeat first | apply blk_drewN | apply blk_drew | apply blk_alloc); refine blk_far ?_ NB119_171.out _; (with_reducible repeat first | apply blk_drewN | apply blk_drew | apply blk_alloc); refine blk_far ?_ NB119_171.out _; (with_reducible repeat first | apply blk_drewN | apply blk_drew | apply blk_alloc); exact BK119.out) hb); have n12_ := sA (blk_below (g := gb127) (o := .cells #[.int .i64 t120, .slice Ao31 t148.length co31, .slice Ao32 t149.length co32] 31 (0, 0)) (by (with_reducible repeat first | apply blk_drewN | apply blk_drew | apply blk_alloc); refine blk_far ?_ NB127_171.out _; (with_reducible repeat first | apply blk_drewN | apply blk_drew | apply blk_alloc); refine blk_far ?_ NB127_171.out _; (with_reducible repeat first | apply blk_drewN | apply blk_drew | apply blk_alloc); refine blk_far ?_ NB127_171.out _; (with_reducible repeat first | apply blk_drewN | apply blk_drew | apply blk_alloc); exact BK127.out) hb); have n13_ := sA (blk_below (g := gb137) (o := .cells #[.int .i64 t128, .slice Ao39 t129.length co39, .slice Ao40 t132.length co40] 31 (0, 0)) (by (with_reducible repeat first | apply blk_drewN | apply blk_drew | apply blk_alloc); refine blk_far ?_ NB137_171.out _; (with_reducible repeat first | apply blk_drewN | apply blk_drew | apply blk_alloc); refine blk_far ?_ NB137_171.out _; (with_reducible repeat first | apply blk_drewN | apply blk_drew | apply blk_alloc); refine blk_far ?_ NB137_171.out _; (with_reducible repeat first | apply blk_drewN | apply blk_drew | apply blk_alloc); exact BK137.out) hb); have n14_ := sA (blk_below (g := gb171) (o := .cells #[.int .i64 t162, .slice Ao147 t163.length co147, .slice Ao148 t166.length co148] 31 (0, 0)) (by (with_reducible repeat first | apply blk_drewN | apply blk_drew | apply blk_alloc); refine blk_put (cs := #[.int .i64 t162, .slice Ao147 t163.length co147, .slice none 0 0]) ?_ 2 _ rfl; (with_reducible repeat first | apply blk_drewN | apply blk_drew | apply blk_alloc); refine blk_put (cs := #[.int .i64 t162, .slice none 0 0, .slice none 0 0]) ?_ 1 _ rfl; (with_reducible repeat first | apply blk_drewN | apply blk_drew | apply blk_alloc); refine blk_put (cs := #[.int .i64 0, .slice none 0 0, .slice none 0 0]) ?_ 0 _ rfl; (with_reducible repeat first | apply blk_drewN | apply blk_drew | apply blk_alloc); exact BK171.out) hb); have n15_ := sA (below_step (by repeat (first | (with_reducible first | exact HB.out | apply below_alloc | apply pw_below_drewN | apply below_drew1 | refine below_set ?_ (Aside0.out (by assumption))) | exact HB.out)) hb); clear HO_120001; clear HO_120002; clear HO_128001; clear HO_128002; clear HO_138001; clear HO_138002; clear HO158; clear HO161; clear HO165; clear HO168; clear BK101; clear BK119; clear BK127; clear BK137; clear BK171; clear HB; have HO_120001 := n0_; have HO_120002 := n1_; have HO_128001 := n2_; have HO_128002 := n3_; have HO_138001 := n4_; have HO_138002 := n5_; have HO158 := n6_; have HO161 := n7_; have HO165 := n8_; have HO168 := n9_; have BK101 := n10_; have BK119 := n11_; have BK127 := n12_; have BK137 := n13_; have BK171 := n14_; have HB := n15_; clear n0_ n1_ n2_ n3_ n4_ n5_ n6_ n7_ n8_ n9_ n10_ n11_ n12_ n13_ n14_ n15_; (try clear hb); (try clear hb2); (try clear hk); (try clear hi)))
              go_meet
              case rel => exact ⟨_, (true), (by first | rfl | (simp; done) | (simp [*]; done)), H', ⟨by have := HJ10.out; have := HJ72.out; first | omega | exact Nat.le_refl _⟩, ⟨by (try simp only [hl128001_72]); (try simp only [hl128002_72]); (with_reducible repeat (first | apply Kd.R_alloc | apply Kd.R_drewN | apply Kd.R_drew)); exact Kd.R_mono HO_120001.out (fun _ hk => ⟨hk.1.1.1, ⟨hk.1.1.2, hk.2⟩⟩)⟩, ⟨by (try simp only [hl128001_72]); (try simp only [hl128002_72]); (with_reducible repeat (first | apply Kd.R_alloc | apply Kd.R_drewN | apply Kd.R_drew)); exact Kd.R_mono HO_120002.out (fun _ hk => ⟨hk.1.1.1, ⟨hk.1.1.2, hk.2⟩⟩)⟩, ⟨by (try simp only [hl128001_72]); (try simp only [hl128002_72]); (with_reducible repeat (first | apply Kd.R_alloc | apply Kd.R_drewN | apply Kd.R_drew)); exact Kd.R_mono HO_128001.out (fun _ hk => ⟨hk.1.1.1, ⟨hk.1.1.2, hk.2⟩⟩)⟩, ⟨by (try simp only [hl128001_72]); (try simp only [hl128002_72]); (with_reducible repeat (first | apply Kd.R_alloc | apply Kd.R_drewN | apply Kd.R_drew)); exact Kd.R_mono HO_128002.out (fun _ hk => ⟨hk.1.1.1, ⟨hk.1.1.2, hk.2⟩⟩)⟩, ⟨by (try simp only [hl128001_72]); (try simp only [hl128002_72]); (with_reducible repeat (first | apply Kd.R_alloc | apply Kd.R_drewN | apply Kd.R_drew)); exact Kd.R_mono HO_138001.out (fun _ hk => ⟨hk.1.1.1, ⟨hk.1.1.2, hk.2⟩⟩)⟩, ⟨by (try simp only [hl128001_72]); (try simp only [hl128002_72]); (with_reducible repeat (first | apply Kd.R_alloc | apply Kd.R_drewN | apply Kd.R_drew)); exact Kd.R_mono HO_138002.out (fun _ hk => ⟨hk.1.1.1, ⟨hk.1.1.2, hk.2⟩⟩)⟩, ⟨by (try simp only [hl128001_72]); (try simp only [hl128002_72]); (with_reducible repeat (first | apply Kd.R_alloc | apply Kd.R_drewN | apply Kd.R_drew)); exact Kd.R_mono HO165.out (fun _ hk => ⟨hk.1.1.1.2, ⟨hk.1.1.2, hk.1.2⟩⟩)⟩, ⟨by (try simp only [hl128001_72]); (try simp only [hl128002_72]); (with_reducible repeat (first | apply Kd.R_alloc | apply Kd.R_drewN | apply Kd.R_drew)); exact Kd.R_mono HO168.out (fun _ hk => ⟨hk.1.1.1.2, ⟨hk.1.1.2, hk.1.2⟩⟩)⟩, ⟨by (try simp only [hl128001_72]); (try simp only [hl128002_72]); (with_reducible repeat first | apply blk_drewN | apply blk_drew | apply blk_alloc); exact BK101.out⟩, ⟨by (try simp only [hl128001_72]); (try simp only [hl128002_72]); (with_reducible repeat first | apply blk_drewN | apply blk_drew | apply blk_alloc); exact BK119.out⟩, ⟨by (try simp only [hl128001_72]); (try simp only [hl128002_72]); (with_reducible repeat first | apply blk_drewN | apply blk_drew | apply blk_alloc); exact BK127.out⟩, ⟨by (try simp only [hl128001_72]); (try simp only [hl128002_72]); (with_reducible repeat first | apply blk_drewN | apply blk_drew | apply blk_alloc); exact BK137.out⟩, ⟨by (try simp only [hl128001_72]); (try simp only [hl128002_72]); (with_reducible repeat first | apply blk_drewN | apply blk_drew | apply blk_alloc); exact BK171.out⟩, ⟨by repeat (first | (with_reducible first | exact HB.out | apply below_alloc | apply pw_below_drewN | apply below_drew1 | refine below_set ?_ GE101.out | refine below_set ?_ GE119.out | refine below_set ?_ GE127.out | refine below_set ?_ GE137.out | refine below_set ?_ GE171.out) | exact HB.out)⟩⟩
            ·replace c150 := Bool.eq_false_iff.mpr c150
             subst c150
             have H1 : (laws_FnExactSendNext.j2 kj72 t151 true t128 t152 t153) = some r := by rw [if_neg (show ¬ (false = true) by decide)] at H; exact H
             clear H
             have H := H1
             clear H1
             have H' := sA H
             clear H
             have hnb172 := NB171_101.out
             have hnc172 := NB101_171.out
             have hnb173 := NB171_119.out
             have hnc173 := NB119_171.out
             have hnb174 := NB171_127.out
             have hnc174 := NB127_171.out
             have hnb175 := NB171_137.out
             have hnc175 := NB137_171.out
             have hcz176_0 : w141.cell? ⟨gb171, 0, none⟩ = some (.int .i64 0) := (blk_cell BK171.out 0).trans rfl
             have hcz176_1 : w141.cell? ⟨gb171, 1, none⟩ = some (.slice none 0 0) := (blk_cell BK171.out 1).trans rfl
             have hcz176_2 : w141.cell? ⟨gb171, 2, none⟩ = some (.slice none 0 0) := (blk_cell BK171.out 2).trans rfl
             have hfz176_0 := blk_frozen BK171.out 0
             have hfz176_1 := blk_frozen BK171.out 1
             have hfz176_2 := blk_frozen BK171.out 2
             have hnb177 := NB119_101.out
             have hnc177 := NB101_119.out
             have hnb178 := NB119_127.out
             have hnc178 := NB127_119.out
             have hnb179 := NB119_137.out
             have hnc179 := NB137_119.out
             have hcz180_0 : w141.cell? ⟨gb119, 0, none⟩ = some (.int .i64 t110) := (blk_cell BK119.out 0).trans rfl
             have hcz180_1 : w141.cell? ⟨gb119, 1, none⟩ = some (.slice Ao23 t111.length co23) := (blk_cell BK119.out 1).trans rfl
             have hcz180_2 : w141.cell? ⟨gb119, 2, none⟩ = some (.slice Ao24 t114.length co24) := (blk_cell BK119.out 2).trans rfl
             have hfz180_0 := blk_frozen BK119.out 0
             have hfz180_1 := blk_frozen BK119.out 1
             have hfz180_2 := blk_frozen BK119.out 2
             go_wp2_with (first | ((with_reducible refine gate_callee (f := 13) rfl ?_); refine goesL_ (some 97) rfl rfl Try.func13 (by kernel_rfl) rfl #[.agg #[.int .i64 t162, .slice Ao147 t163.length co147, .slice Ao148 t166.length co148], .agg #[.int .i64 t110, .slice Ao23 t111.length co23, .slice Ao24 t114.length co24]] rfl (by (try simp only [List.map_toArray, List.map_cons, List.map_nil]); first | done | rfl | (simp only [List.length_drop, List.length_take]; rfl)) ?_; (with_reducible refine (laws_eqSender.calls kj72 t162 _ _ t163 _ _ t166 t110 _ _ t111 _ _ t114 false _ ?side1 ?side2 ?side3 ?side4 ?side5 ?side6 ?side7 ?side8 A149.out).mono ?_); (case side1 => refine (Kd.R_reads' (e := 59) (base := w.heap.size) (ok := fun k_ => ((((True ∧ some k_ ≠ (.slice Ao23 t111.length co23 : Value).ownBlock) ∧ some k_ ≠ (.slice Ao31 t148.length co31 : Value).ownBlock) ∧ some k_ ≠ (.slice Ao39 t129.length co39 : Value).ownBlock) ∧ some k_ ≠ (.slice Ao138 t156.length co138 : Value).ownBlock)) (n := t163.length) (c := co147) ?_).2.2; exact (sR (Kd.R_mono (Kd.R_far (p := ⟨gb171, 2, none⟩) (Kd.R_far (p := ⟨gb171, 1, none⟩) (Kd.R_far (p := ⟨gb171, 0, none⟩) (Kd.R_types HO165.out BK171.out (by decide)) (fun _ hk => hk.2) (.int .i64 t162)) (fun _ hk => hk.2) (.slice Ao147 t163.length co147)) (fun _ hk => hk.2) (.slice Ao148 t166.length co148)) (fun _ h_ => h_.1)))); (case side2 => exact (Kd.R_reads' HO165.out).2.1); (case side3 => refine (Kd.R_reads' (e := 3) (base := w.heap.size) (ok := fun k_ => ((((True ∧ some k_ ≠ (.slice Ao24 t114.length co24 : Value).ownBlock) ∧ some k_ ≠ (.slice Ao32 t149.length co32 : Value).ownBlock) ∧ some k_ ≠ (.slice Ao40 t132.length co40 : Value).ownBlock) ∧ some k_ ≠ (.slice Ao139 t159.length co139 : Value).ownBlock)) (n := t166.length) (c := co148) ?_).2.2; exact (sR (Kd.R_mono (Kd.R_far (p := ⟨gb171, 2, none⟩) (Kd.R_far (p := ⟨gb171, 1, none⟩) (Kd.R_far (p := ⟨gb171, 0, none⟩) (Kd.R_types HO168.out BK171.out (by decide)) (fun _ hk => hk.2) (.int .i64 t162)) (fun _ hk => hk.2) (.slice Ao147 t163.length co147)) (fun _ hk => hk.2) (.slice Ao148 t166.length co148)) (fun _ h_ => h_.1)))); (case side4 => exact (Kd.R_reads' HO168.out).2.1); (case side5 => refine (Kd.R_reads' (e := 59) (base := w.heap.size) (ok := fun k_ => (((some k_ ≠ (.slice Ao31 t148.length co31 : Value).ownBlock ∧ some k_ ≠ (.slice Ao39 t129.length co39 : Value).ownBlock) ∧ some k_ ≠ (.slice Ao138 t156.length co138 : Value).ownBlock) ∧ some k_ ≠ (.slice Ao147 t163.length co147 : Value).ownBlock)) (n := t111.length) (c := co23) ?_).2.2; exact (sR (Kd.R_mono (Kd.R_far (p := ⟨gb171, 2, none⟩) (Kd.R_far (p := ⟨gb171, 1, none⟩) (Kd.R_far (p := ⟨gb171, 0, none⟩) (Kd.R_types HO_120001.out BK171.out (by decide)) (fun _ hk => hk.2) (.int .i64 t162)) (fun _ hk => hk.2) (.slice Ao147 t163.length co147)) (fun _ hk => hk.2) (.slice Ao148 t166.length co148)) (fun _ h_ => h_.1)))); (case side6 => exact (Kd.R_reads' HO_120001.out).2.1); (case side7 => refine (Kd.R_reads' (e := 3) (base := w.heap.size) (ok := fun k_ => (((some k_ ≠ (.slice Ao32 t149.length co32 : Value).ownBlock ∧ some k_ ≠ (.slice Ao40 t132.length co40 : Value).ownBlock) ∧ some k_ ≠ (.slice Ao139 t159.length co139 : Value).ownBlock) ∧ some k_ ≠ (.slice Ao148 t166.length co148 : Value).ownBlock)) (n := t114.length) (c := co24) ?_).2.2; exact (sR (Kd.R_mono (Kd.R_far (p := ⟨gb171, 2, none⟩) (Kd.R_far (p := ⟨gb171, 1, none⟩) (Kd.R_far (p := ⟨gb171, 0, none⟩) (Kd.R_types HO_120002.out BK171.out (by decide)) (fun _ hk => hk.2) (.int .i64 t162)) (fun _ hk => hk.2) (.slice Ao147 t163.length co147)) (fun _ hk => hk.2) (.slice Ao148 t166.length co148)) (fun _ h_ => h_.1)))); (case side8 => exact (Kd.R_reads' HO_120002.out).2.1); rintro e w181 ⟨rfl, hb⟩; refine ⟨_, rfl, ?_⟩; have n0_ := sA (Kd.R_below (sR (Kd.R_mono (Kd.R_far (p := ⟨gb171, 2, none⟩) (Kd.R_far (p := ⟨gb171, 1, none⟩) (Kd.R_far (p := ⟨gb171, 0, none⟩) (Kd.R_types HO_120001.out BK171.out (by decide)) (fun _ hk => hk.2) (.int .i64 t162)) (fun _ hk => hk.2) (.slice Ao147 t163.length co147)) (fun _ hk => hk.2) (.slice Ao148 t166.length co148)) (fun _ h_ => h_.1))) hb); have n1_ := sA (Kd.R_below (sR (Kd.R_mono (Kd.R_far (p := ⟨gb171, 2, none⟩) (Kd.R_far (p := ⟨gb171, 1, none⟩) (Kd.R_far (p := ⟨gb171, 0, none⟩) (Kd.R_types HO_120002.out BK171.out (by decide)) (fun _ hk => hk.2) (.int .i64 t162)) (fun _ hk => hk.2) (.slice Ao147 t163.length co147)) (fun _ hk => hk.2) (.slice Ao148 t166.length co148)) (fun _ h_ => h_.1))) hb); have n2_ := sA (Kd.R_below (sR (Kd.R_mono (Kd.R_far (p := ⟨gb171, 2, none⟩) (Kd.R_far (p := ⟨gb171, 1, none⟩) (Kd.R_far (p := ⟨gb171, 0, none⟩) (Kd.R_types HO_128001.out BK171.out (by decide)) (fun _ hk => hk.2) (.int .i64 t162)) (fun _ hk => hk.2) (.slice Ao147 t163.length co147)) (fun _ hk => hk.2) (.slice Ao148 t166.length co148)) (fun _ h_ => h_.1))) hb); have n3_ := sA (Kd.R_below (sR (Kd.R_mono (Kd.R_far (p := ⟨gb171, 2, none⟩) (Kd.R_far (p := ⟨gb171, 1, none⟩) (Kd.R_far (p := ⟨gb171, 0, none⟩) (Kd.R_types HO_128002.out BK171.out (by decide)) (fun _ hk => hk.2) (.int .i64 t162)) (fun _ hk => hk.2) (.slice Ao147 t163.length co147)) (fun _ hk => hk.2) (.slice Ao148 t166.length co148)) (fun _ h_ => h_.1))) hb); have n4_ := sA (Kd.R_below (sR (Kd.R_mono (Kd.R_far (p := ⟨gb171, 2, none⟩) (Kd.R_far (p := ⟨gb171, 1, none⟩) (Kd.R_far (p := ⟨gb171, 0, none⟩) (Kd.R_types HO_138001.out BK171.out (by decide)) (fun _ hk => hk.2) (.int .i64 t162)) (fun _ hk => hk.2) (.slice Ao147 t163.length co147)) (fun _ hk => hk.2) (.slice Ao148 t166.length co148)) (fun _ h_ => h_.1))) hb); have n5_ := sA (Kd.R_below (sR (Kd.R_mono (Kd.R_far (p := ⟨gb171, 2, none⟩) (Kd.R_far (p := ⟨gb171, 1, none⟩) (Kd.R_far (p := ⟨gb171, 0, none⟩) (Kd.R_types HO_138002.out BK171.out (by decide)) (fun _ hk => hk.2) (.int .i64 t162)) (fun _ hk => hk.2) (.slice Ao147 t163.length co147)) (fun _ hk => hk.2) (.slice Ao148 t166.length co148)) (fun _ h_ => h_.1))) hb); have n6_ := sA (Kd.R_below (sR (Kd.R_mono (Kd.R_far (p := ⟨gb171, 2, none⟩) (Kd.R_far (p := ⟨gb171, 1, none⟩) (Kd.R_far (p := ⟨gb171, 0, none⟩) (Kd.R_types HO158.out BK171.out (by decide)) (fun _ hk => hk.2) (.int .i64 t162)) (fun _ hk => hk.2) (.slice Ao147 t163.length co147)) (fun _ hk => hk.2) (.slice Ao148 t166.length co148)) (fun _ h_ => h_.1))) hb); have n7_ := sA (Kd.R_below (sR (Kd.R_mono (Kd.R_far (p := ⟨gb171, 2, none⟩) (Kd.R_far (p := ⟨gb171, 1, none⟩) (Kd.R_far (p := ⟨gb171, 0, none⟩) (Kd.R_types HO161.out BK171.out (by decide)) (fun _ hk => hk.2) (.int .i64 t162)) (fun _ hk => hk.2) (.slice Ao147 t163.length co147)) (fun _ hk => hk.2) (.slice Ao148 t166.length co148)) (fun _ h_ => h_.1))) hb); have n8_ := sA (Kd.R_below (sR (Kd.R_mono (Kd.R_far (p := ⟨gb171, 2, none⟩) (Kd.R_far (p := ⟨gb171, 1, none⟩) (Kd.R_far (p := ⟨gb171, 0, none⟩) (Kd.R_types HO165.out BK171.out (by decide)) (fun _ hk => hk.2) (.int .i64 t162)) (fun _ hk => hk.2) (.slice Ao147 t163.length co147)) (fun _ hk => hk.2) (.slice Ao148 t166.length co148)) (fun _ h_ => h_.1))) hb); have n9_ := sA (Kd.R_below (sR (Kd.R_mono (Kd.R_far (p := ⟨gb171, 2, none⟩) (Kd.R_far (p := ⟨gb171, 1, none⟩) (Kd.R_far (p := ⟨gb171, 0, none⟩) (Kd.R_types HO168.out BK171.out (by decide)) (fun _ hk => hk.2) (.int .i64 t162)) (fun _ hk => hk.2) (.slice Ao147 t163.length co147)) (fun _ hk => hk.2) (.slice Ao148 t166.length co148)) (fun _ h_ => h_.1))) hb); have n10_ := sA (blk_below (g := gb101) (o := .cells #[.int .i64 a0_0, .slice A0_1 l0_1.length c0_1, .slice A0_2 l0_2.length c0_2] 25 (0, 0)) (by (with_reducible repeat first | apply blk_drewN | apply blk_drew | apply blk_alloc); refine blk_far ?_ NB101_171.out _; (with_reducible repeat first | apply blk_drewN | apply blk_drew | apply blk_alloc); refine blk_far ?_ NB101_171.out _; (with_reducible repeat first | apply blk_drewN | apply blk_drew | apply blk_alloc); refine blk_far ?_ NB101_171.out _; (with_reducible repeat first | apply blk_drewN | apply blk_drew | apply blk_alloc); exact BK101.out) hb); have n11_ := sA (blk_below (g := gb119) (o := .cells #[.int .i64 t110, .slice Ao23 t111.length co23, .slice Ao24 t114.length co24] 31 (0, 0)) (by (with_reducible repeat first | apply blk_drewN | apply blk_drew | apply blk_alloc); refine blk_far ?_ NB119_171.out _; (with_reducible repeat first | apply blk_drewN | apply blk_drew | apply blk_alloc); refine blk_far ?_ NB119_171.out _; (with_reducible repeat first | apply blk_drewN | apply blk_drew | apply blk_alloc); refine blk_far ?_ NB119_171.out _; (with_reducible repeat first | apply blk_drewN | apply blk_drew | apply blk_alloc); exact BK119.out) hb); have n12_ := sA (blk_below (g := gb127) (o := .cells #[.int .i64 t120, .slice Ao31 t148.length co31, .slice Ao32 t149.length co32] 31 (0, 0)) (by (with_reducible repeat first | apply blk_drewN | apply blk_drew | apply blk_alloc); refine blk_far ?_ NB127_171.out _; (with_reducible repeat first | apply blk_drewN | apply blk_drew | apply blk_alloc); refine blk_far ?_ NB127_171.out _; (with_reducible repeat first | apply blk_drewN | apply blk_drew | apply blk_alloc); refine blk_far ?_ NB127_171.out _; (with_reducible repeat first | apply blk_drewN | apply blk_drew | apply blk_alloc); exact BK127.out) hb); have n13_ := sA (blk_below (g := gb137) (o := .cells #[.int .i64 t128, .slice Ao39 t129.length co39, .slice Ao40 t132.length co40] 31 (0, 0)) (by (with_reducible repeat first | apply blk_drewN | apply blk_drew | apply blk_alloc); refine blk_far ?_ NB137_171.out _; (with_reducible repeat first | apply blk_drewN | apply blk_drew | apply blk_alloc); refine blk_far ?_ NB137_171.out _; (with_reducible repeat first | apply blk_drewN | apply blk_drew | apply blk_alloc); refine blk_far ?_ NB137_171.out _; (with_reducible repeat first | apply blk_drewN | apply blk_drew | apply blk_alloc); exact BK137.out) hb); have n14_ := sA (blk_below (g := gb171) (o := .cells #[.int .i64 t162, .slice Ao147 t163.length co147, .slice Ao148 t166.length co148] 31 (0, 0)) (by (with_reducible repeat first | apply blk_drewN | apply blk_drew | apply blk_alloc); refine blk_put (cs := #[.int .i64 t162, .slice Ao147 t163.length co147, .slice none 0 0]) ?_ 2 _ rfl; (with_reducible repeat first | apply blk_drewN | apply blk_drew | apply blk_alloc); refine blk_put (cs := #[.int .i64 t162, .slice none 0 0, .slice none 0 0]) ?_ 1 _ rfl; (with_reducible repeat first | apply blk_drewN | apply blk_drew | apply blk_alloc); refine blk_put (cs := #[.int .i64 0, .slice none 0 0, .slice none 0 0]) ?_ 0 _ rfl; (with_reducible repeat first | apply blk_drewN | apply blk_drew | apply blk_alloc); exact BK171.out) hb); have n15_ := sA (below_step (by repeat (first | (with_reducible first | exact HB.out | apply below_alloc | apply pw_below_drewN | apply below_drew1 | refine below_set ?_ (Aside0.out (by assumption))) | exact HB.out)) hb); clear HO_120001; clear HO_120002; clear HO_128001; clear HO_128002; clear HO_138001; clear HO_138002; clear HO158; clear HO161; clear HO165; clear HO168; clear BK101; clear BK119; clear BK127; clear BK137; clear BK171; clear HB; have HO_120001 := n0_; have HO_120002 := n1_; have HO_128001 := n2_; have HO_128002 := n3_; have HO_138001 := n4_; have HO_138002 := n5_; have HO158 := n6_; have HO161 := n7_; have HO165 := n8_; have HO168 := n9_; have BK101 := n10_; have BK119 := n11_; have BK127 := n12_; have BK137 := n13_; have BK171 := n14_; have HB := n15_; clear n0_ n1_ n2_ n3_ n4_ n5_ n6_ n7_ n8_ n9_ n10_ n11_ n12_ n13_ n14_ n15_; (try clear hb); (try clear hb2); (try clear hk); (try clear hi)))
             go_meet
             case rel => exact ⟨_, (true), (by first | rfl | (simp; done) | (simp [*]; done)), H', ⟨by have := HJ10.out; have := HJ72.out; first | omega | exact Nat.le_refl _⟩, ⟨by (try simp only [hl128001_72]); (try simp only [hl128002_72]); (with_reducible repeat (first | apply Kd.R_alloc | apply Kd.R_drewN | apply Kd.R_drew)); exact Kd.R_mono HO_120001.out (fun _ hk => ⟨hk.1.1.1, ⟨hk.1.1.2, hk.2⟩⟩)⟩, ⟨by (try simp only [hl128001_72]); (try simp only [hl128002_72]); (with_reducible repeat (first | apply Kd.R_alloc | apply Kd.R_drewN | apply Kd.R_drew)); exact Kd.R_mono HO_120002.out (fun _ hk => ⟨hk.1.1.1, ⟨hk.1.1.2, hk.2⟩⟩)⟩, ⟨by (try simp only [hl128001_72]); (try simp only [hl128002_72]); (with_reducible repeat (first | apply Kd.R_alloc | apply Kd.R_drewN | apply Kd.R_drew)); exact Kd.R_mono HO_128001.out (fun _ hk => ⟨hk.1.1.1, ⟨hk.1.1.2, hk.2⟩⟩)⟩, ⟨by (try simp only [hl128001_72]); (try simp only [hl128002_72]); (with_reducible repeat (first | apply Kd.R_alloc | apply Kd.R_drewN | apply Kd.R_drew)); exact Kd.R_mono HO_128002.out (fun _ hk => ⟨hk.1.1.1, ⟨hk.1.1.2, hk.2⟩⟩)⟩, ⟨by (try simp only [hl128001_72]); (try simp only [hl128002_72]); (with_reducible repeat (first | apply Kd.R_alloc | apply Kd.R_drewN | apply Kd.R_drew)); exact Kd.R_mono HO_138001.out (fun _ hk => ⟨hk.1.1.1, ⟨hk.1.1.2, hk.2⟩⟩)⟩, ⟨by (try simp only [hl128001_72]); (try simp only [hl128002_72]); (with_reducible repeat (first | apply Kd.R_alloc | apply Kd.R_drewN | apply Kd.R_drew)); exact Kd.R_mono HO_138002.out (fun _ hk => ⟨hk.1.1.1, ⟨hk.1.1.2, hk.2⟩⟩)⟩, ⟨by (try simp only [hl128001_72]); (try simp only [hl128002_72]); (with_reducible repeat (first | apply Kd.R_alloc | apply Kd.R_drewN | apply Kd.R_drew)); exact Kd.R_mono HO165.out (fun _ hk => ⟨hk.1.1.1.2, ⟨hk.1.1.2, hk.1.2⟩⟩)⟩, ⟨by (try simp only [hl128001_72]); (try simp only [hl128002_72]); (with_reducible repeat (first | apply Kd.R_alloc | apply Kd.R_drewN | apply Kd.R_drew)); exact Kd.R_mono HO168.out (fun _ hk => ⟨hk.1.1.1.2, ⟨hk.1.1.2, hk.1.2⟩⟩)⟩, ⟨by (try simp only [hl128001_72]); (try simp only [hl128002_72]); (with_reducible repeat first | apply blk_drewN | apply blk_drew | apply blk_alloc); exact BK101.out⟩, ⟨by (try simp only [hl128001_72]); (try simp only [hl128002_72]); (with_reducible repeat first | apply blk_drewN | apply blk_drew | apply blk_alloc); exact BK119.out⟩, ⟨by (try simp only [hl128001_72]); (try simp only [hl128002_72]); (with_reducible repeat first | apply blk_drewN | apply blk_drew | apply blk_alloc); exact BK127.out⟩, ⟨by (try simp only [hl128001_72]); (try simp only [hl128002_72]); (with_reducible repeat first | apply blk_drewN | apply blk_drew | apply blk_alloc); exact BK137.out⟩, ⟨by (try simp only [hl128001_72]); (try simp only [hl128002_72]); (with_reducible repeat first | apply blk_drewN | apply blk_drew | apply blk_alloc); exact BK171.out⟩, ⟨by repeat (first | (with_reducible first | exact HB.out | apply below_alloc | apply pw_below_drewN | apply below_drew1 | refine below_set ?_ GE101.out | refine below_set ?_ GE119.out | refine below_set ?_ GE127.out | refine below_set ?_ GE137.out | refine below_set ?_ GE171.out) | exact HB.out)⟩⟩
           case rest =>
            clear HC126
            try clear c1
            try clear c2
            try clear p2
            try clear c3
            try clear c3b0
            try clear c4
            try clear c5
            try clear c6
            try clear c7
            try clear c8
            try clear c9
            try clear c10
            try clear c11
            try clear c12
            try clear c13
            try clear c14
            try clear c15
            try clear c16
            try clear c17
            try clear c18
            try clear c19
            try clear c21
            try clear c28
            try clear c29
            try clear c35
            try clear c36
            try clear c37
            try clear c42
            try clear c43
            try clear c43b0
            try clear c43b1
            try clear c44
            try clear c45
            try clear c46
            try clear c48
            try clear c49
            try clear c52
            try clear c53
            try clear c54
            try clear c56
            try clear c57
            try clear c60
            try clear c61
            try clear c62
            try clear c64
            try clear c65
            try clear c68
            try clear c71
            try clear c79
            try clear c80
            try clear c81
            try clear c84
            try clear c84b0
            try clear c86
            try clear c87
            try clear c87b0
            try clear c87b1
            try clear c88
            try clear c89
            try clear c90
            try clear c92
            try clear c93
            try clear c96
            try clear c97
            try clear c98
            try clear c100
            try clear c101
            try clear c104
            try clear c105
            try clear c106
            try clear c108
            try clear c109
            try clear c112
            try clear c115
            try clear c115b0
            try clear c116
            try clear c117
            try clear c118
            try clear c123
            try clear c123b0
            try clear c123b1
            try clear c127
            try clear c128
            try clear c129
            try clear c134
            try clear c135
            try clear c142
            try clear c143
            try clear c144
            try clear c145
            try clear c150
            try clear c151
            try clear c151b0
            try clear c151b1
            try clear c152
            try clear c153
            try clear c154
            try clear c155
            try clear c157
            try clear c158
            try clear c159
            try clear c162
            try clear c163
            try clear c164
            try clear c165
            try clear c167
            try clear c168
            try clear c169
            try clear c172
            try clear c173
            try clear c174
            try clear c175
            try clear c177
            try clear c178
            try clear c179
            try clear hcz102_0
            try clear hcz102_1
            try clear hcz102_2
            try clear hcz107_0
            try clear hcz107_1
            try clear hcz107_2
            try clear hcz110_0
            try clear hcz110_1
            try clear hcz110_2
            try clear hcz119_0
            try clear hcz119_1
            try clear hcz119_2
            try clear hcz121_0
            try clear hcz121_1
            try clear hcz121_2
            try clear hcz130_0
            try clear hcz130_1
            try clear hcz130_2
            try clear hcz132_0
            try clear hcz132_1
            try clear hcz132_2
            try clear hcz136_0
            try clear hcz136_1
            try clear hcz136_2
            try clear hcz13_0
            try clear hcz13_1
            try clear hcz13_2
            try clear hcz146_0
            try clear hcz146_1
            try clear hcz146_2
            try clear hcz156_0
            try clear hcz156_1
            try clear hcz156_2
            try clear hcz15_0
            try clear hcz15_1
            try clear hcz15_2
            try clear hcz160_0
            try clear hcz160_1
            try clear hcz160_2
            try clear hcz166_0
            try clear hcz166_1
            try clear hcz166_2
            try clear hcz170_0
            try clear hcz170_1
            try clear hcz170_2
            try clear hcz176_0
            try clear hcz176_1
            try clear hcz176_2
            try clear hcz180_0
            try clear hcz180_1
            try clear hcz180_2
            try clear hcz22_0
            try clear hcz22_1
            try clear hcz22_2
            try clear hcz25_0
            try clear hcz25_1
            try clear hcz25_2
            try clear hcz30_0
            try clear hcz30_1
            try clear hcz30_2
            try clear hcz38_0
            try clear hcz38_1
            try clear hcz38_2
            try clear hcz47_0
            try clear hcz47_1
            try clear hcz47_2
            try clear hcz50_0
            try clear hcz50_1
            try clear hcz50_2
            try clear hcz55_0
            try clear hcz55_1
            try clear hcz55_2
            try clear hcz58_0
            try clear hcz58_1
            try clear hcz58_2
            try clear hcz5_0
            try clear hcz5_1
            try clear hcz5_2
            try clear hcz63_0
            try clear hcz63_1
            try clear hcz63_2
            try clear hcz66_0
            try clear hcz66_1
            try clear hcz66_2
            try clear hcz82_0
            try clear hcz82_1
            try clear hcz82_2
            try clear hcz91_0
            try clear hcz91_1
            try clear hcz91_2
            try clear hcz94_0
            try clear hcz94_1
            try clear hcz94_2
            try clear hcz99_0
            try clear hcz99_1
            try clear hcz99_2
            try clear hfz102_0
            try clear hfz102_1
            try clear hfz102_2
            try clear hfz107_0
            try clear hfz107_1
            try clear hfz107_2
            try clear hfz110_0
            try clear hfz110_1
            try clear hfz110_2
            try clear hfz119_0
            try clear hfz119_1
            try clear hfz119_2
            try clear hfz121_0
            try clear hfz121_1
            try clear hfz121_2
            try clear hfz130_0
            try clear hfz130_1
            try clear hfz130_2
            try clear hfz132_0
            try clear hfz132_1
            try clear hfz132_2
            try clear hfz136_0
            try clear hfz136_1
            try clear hfz136_2
            try clear hfz13_0
            try clear hfz13_1
            try clear hfz13_2
            try clear hfz146_0
            try clear hfz146_1
            try clear hfz146_2
            try clear hfz156_0
            try clear hfz156_1
            try clear hfz156_2
            try clear hfz15_0
            try clear hfz15_1
            try clear hfz15_2
            try clear hfz160_0
            try clear hfz160_1
            try clear hfz160_2
            try clear hfz166_0
            try clear hfz166_1
            try clear hfz166_2
            try clear hfz170_0
            try clear hfz170_1
            try clear hfz170_2
            try clear hfz176_0
            try clear hfz176_1
            try clear hfz176_2
            try clear hfz180_0
            try clear hfz180_1
            try clear hfz180_2
            try clear hfz22_0
            try clear hfz22_1
            try clear hfz22_2
            try clear hfz25_0
            try clear hfz25_1
            try clear hfz25_2
            try clear hfz30_0
            try clear hfz30_1
            try clear hfz30_2
            try clear hfz38_0
            try clear hfz38_1
            try clear hfz38_2
            try clear hfz47_0
            try clear hfz47_1
            try clear hfz47_2
            try clear hfz50_0
            try clear hfz50_1
            try clear hfz50_2
            try clear hfz55_0
            try clear hfz55_1
            try clear hfz55_2
            try clear hfz58_0
            try clear hfz58_1
            try clear hfz58_2
            try clear hfz5_0
            try clear hfz5_1
            try clear hfz5_2
            try clear hfz63_0
            try clear hfz63_1
            try clear hfz63_2
            try clear hfz66_0
            try clear hfz66_1
            try clear hfz66_2
            try clear hfz82_0
            try clear hfz82_1
            try clear hfz82_2
            try clear hfz91_0
            try clear hfz91_1
            try clear hfz91_2
            try clear hfz94_0
            try clear hfz94_1
            try clear hfz94_2
            try clear hfz99_0
            try clear hfz99_1
            try clear hfz99_2
            try clear p2
            obtain ⟨kq, x108_125, rfl, HA, HJ125, HO_120001, HO_120002, HO_128001, HO_128002, HO_138001, HO_138002, HO_172001, HO_172002, BK101, BK119, BK127, BK137, BK171, HB⟩ := hcut
            have hl138001_125 := (Kd.R_reads' HO_138001.out).1
            rw [hl138001_125] at HO_138001
            (try simp only [hl138001_125])
            (try simp only [hl138001_125] at BK101)
            (try simp only [hl138001_125] at BK119)
            (try simp only [hl138001_125] at BK127)
            (try simp only [hl138001_125] at BK137)
            (try simp only [hl138001_125] at BK171)
            (try simp only [hl138001_125] at HO_120001)
            (try simp only [hl138001_125] at HO_120002)
            (try simp only [hl138001_125] at HO_128001)
            (try simp only [hl138001_125] at HO_128002)
            (try simp only [hl138001_125] at HO_138002)
            (try simp only [hl138001_125] at HO_172001)
            (try simp only [hl138001_125] at HO_172002)
            have hl138002_125 := (Kd.R_reads' HO_138002.out).1
            rw [hl138002_125] at HO_138002
            (try simp only [hl138002_125])
            (try simp only [hl138002_125] at BK101)
            (try simp only [hl138002_125] at BK119)
            (try simp only [hl138002_125] at BK127)
            (try simp only [hl138002_125] at BK137)
            (try simp only [hl138002_125] at BK171)
            (try simp only [hl138002_125] at HO_120001)
            (try simp only [hl138002_125] at HO_120002)
            (try simp only [hl138002_125] at HO_128001)
            (try simp only [hl138002_125] at HO_128002)
            (try simp only [hl138002_125] at HO_138001)
            (try simp only [hl138002_125] at HO_172001)
            (try simp only [hl138002_125] at HO_172002)
            cases kq with
            | zero => exact absurd HA.out (by simp [laws_FnExactSendNext.j2])
            | succ kj125 =>
             have H := HA.out
             clear HA
             simp only [laws_FnExactSendNext.j2] at H
             by_cases c182 : x108_125 = true
             ·subst c182
              have H1 : (some false) = some r := by rw [if_pos rfl] at H; exact H
              clear H
              have H := H1
              clear H1
              obtain rfl := Option.some.inj H
              go_wp2
              go_ret
              exact ⟨by first | rfl | (simp [errW_none, errW_some] <;> rfl) | (simp [*, errW_none, errW_some] <;> rfl), by repeat (first | (with_reducible first | exact HB.out | apply below_alloc | apply pw_below_drewN | apply below_drew1 | refine below_set ?_ GE101.out | refine below_set ?_ GE119.out | refine below_set ?_ GE127.out | refine below_set ?_ GE137.out | refine below_set ?_ GE171.out) | exact HB.out)⟩
             ·replace c182 := Bool.eq_false_iff.mpr c182
              subst c182
              have H1 : ((laws_heldSender.f kj125 t128 t152 t153 1).bind fun t173 => (if t173 < 0 then (some false) else (if t173 = t151 then (some true) else (some false)))) = some r := by rw [if_neg (show ¬ (false = true) by decide)] at H; exact H
              clear H
              have H := H1
              clear H1
              replace H := Option.bind_eq_some_iff.mp H
              obtain ⟨t173, A1830, H⟩ := H
              replace H : (if t173 < 0 then (some false) else (if t173 = t151 then (some true) else (some false))) = some r := H
              have A183 := sA A1830
              clear A1830
              by_cases c184 : t173 < 0
              ·rw [if_pos c184] at H
               have c184b0 : decide (t173 < 0) = true := decide_eq_true c184
               clear c184
               obtain rfl := Option.some.inj H
               have hnb185 := NB137_101.out
               have hnc185 := NB101_137.out
               have hnb186 := NB137_119.out
               have hnc186 := NB119_137.out
               have hnb187 := NB137_127.out
               have hnc187 := NB127_137.out
               have hnb188 := NB137_171.out
               have hnc188 := NB171_137.out
               have hcz189_0 : wc.cell? ⟨gb137, 0, none⟩ = some (.int .i64 t128) := (blk_cell BK137.out 0).trans rfl
               have hcz189_1 : wc.cell? ⟨gb137, 1, none⟩ = some (.slice Ao39 t152.length co39) := (blk_cell BK137.out 1).trans rfl
               have hcz189_2 : wc.cell? ⟨gb137, 2, none⟩ = some (.slice Ao40 t153.length co40) := (blk_cell BK137.out 2).trans rfl
               have hfz189_0 := blk_frozen BK137.out 0
               have hfz189_1 := blk_frozen BK137.out 1
               have hfz189_2 := blk_frozen BK137.out 2
               go_wp2_with (first | ((with_reducible refine gate_callee (f := 19) rfl ?_); refine goesL_ (some 111) rfl rfl Try.func19 (by kernel_rfl) rfl #[.agg #[.int .i64 t128, .slice Ao39 t152.length co39, .slice Ao40 t153.length co40], .int .i64 1] rfl (by (try simp only [List.map_toArray, List.map_cons, List.map_nil]); first | done | rfl | (simp only [List.length_drop, List.length_take]; rfl)) ?_; (with_reducible refine (laws_heldSender.calls kj125 t128 _ _ t152 _ _ t153 1 t173 _ ?side1 ?side2 ?side3 ?side4 A183.out).mono ?_); (case side1 => repeat (first | exact (Kd.R_reads' HO_138001.out).2.2 | (with_reducible refine Kd.C_alloc ?_ _) | (with_reducible refine Kd.C_drewN ?_ _) | (with_reducible refine Kd.C_drew ?_))); (case side2 => exact (Kd.R_reads' HO_138001.out).2.1); (case side3 => repeat (first | exact (Kd.R_reads' HO_138002.out).2.2 | (with_reducible refine Kd.C_alloc ?_ _) | (with_reducible refine Kd.C_drewN ?_ _) | (with_reducible refine Kd.C_drew ?_))); (case side4 => exact (Kd.R_reads' HO_138002.out).2.1); rintro e w190 ⟨rfl, hb⟩; refine ⟨_, rfl, ?_⟩; have n0_ := sA (Kd.R_below (sR HO_120001.out) hb); have n1_ := sA (Kd.R_below (sR HO_120002.out) hb); have n2_ := sA (Kd.R_below (sR HO_128001.out) hb); have n3_ := sA (Kd.R_below (sR HO_128002.out) hb); have n4_ := sA (Kd.R_below (sR HO_138001.out) hb); have n5_ := sA (Kd.R_below (sR HO_138002.out) hb); have n6_ := sA (Kd.R_below (sR HO_172001.out) hb); have n7_ := sA (Kd.R_below (sR HO_172002.out) hb); have n8_ := sA (blk_below (g := gb101) (o := .cells #[.int .i64 a0_0, .slice A0_1 l0_1.length c0_1, .slice A0_2 l0_2.length c0_2] 25 (0, 0)) (sB BK101.out) hb); have n9_ := sA (blk_below (g := gb119) (o := .cells #[.int .i64 t110, .slice Ao23 t111.length co23, .slice Ao24 t114.length co24] 31 (0, 0)) (sB BK119.out) hb); have n10_ := sA (blk_below (g := gb127) (o := .cells #[.int .i64 t120, .slice Ao31 t148.length co31, .slice Ao32 t149.length co32] 31 (0, 0)) (sB BK127.out) hb); have n11_ := sA (blk_below (g := gb137) (o := .cells #[.int .i64 t128, .slice Ao39 t152.length co39, .slice Ao40 t153.length co40] 31 (0, 0)) (sB BK137.out) hb); have n12_ := sA (blk_below (g := gb171) (o := .cells #[.int .i64 t162, .slice Ao147 t163.length co147, .slice Ao148 t166.length co148] 31 (0, 0)) (sB BK171.out) hb); have n13_ := sA (below_step (by repeat (first | (with_reducible first | exact HB.out | apply below_alloc | apply pw_below_drewN | apply below_drew1 | refine below_set ?_ (Aside0.out (by assumption))) | exact HB.out)) hb); clear HO_120001; clear HO_120002; clear HO_128001; clear HO_128002; clear HO_138001; clear HO_138002; clear HO_172001; clear HO_172002; clear BK101; clear BK119; clear BK127; clear BK137; clear BK171; clear HB; have HO_120001 := n0_; have HO_120002 := n1_; have HO_128001 := n2_; have HO_128002 := n3_; have HO_138001 := n4_; have HO_138002 := n5_; have HO_172001 := n6_; have HO_172002 := n7_; have BK101 := n8_; have BK119 := n9_; have BK127 := n10_; have BK137 := n11_; have BK171 := n12_; have HB := n13_; clear n0_ n1_ n2_ n3_ n4_ n5_ n6_ n7_ n8_ n9_ n10_ n11_ n12_ n13_; (try clear hb); (try clear hb2); (try clear hk); (try clear hi)))
               go_ret
               exact ⟨by first | rfl | (simp [errW_none, errW_some] <;> rfl) | (simp [*, errW_none, errW_some] <;> rfl), by repeat (first | (with_reducible first | exact HB.out | apply below_alloc | apply pw_below_drewN | apply below_drew1 | refine below_set ?_ GE101.out | refine below_set ?_ GE119.out | refine below_set ?_ GE127.out | refine below_set ?_ GE137.out | refine below_set ?_ GE171.out) | exact HB.out)⟩
              ·rw [if_neg c184] at H
               have c184b0 : decide (t173 < 0) = false := decide_eq_false c184
               clear c184
               by_cases c191 : t173 = t151
               ·rw [if_pos c191] at H
                have c191b0 : (t173 == t151) = true := beq_iff_eq.mpr c191
                have c191b1 : (t173 != t151) = false := bne_eq_false_iff_eq.mpr c191
                clear c191
                obtain rfl := Option.some.inj H
                have hnb192 := NB137_101.out
                have hnc192 := NB101_137.out
                have hnb193 := NB137_119.out
                have hnc193 := NB119_137.out
                have hnb194 := NB137_127.out
                have hnc194 := NB127_137.out
                have hnb195 := NB137_171.out
                have hnc195 := NB171_137.out
                have hcz196_0 : wc.cell? ⟨gb137, 0, none⟩ = some (.int .i64 t128) := (blk_cell BK137.out 0).trans rfl
                have hcz196_1 : wc.cell? ⟨gb137, 1, none⟩ = some (.slice Ao39 t152.length co39) := (blk_cell BK137.out 1).trans rfl
                have hcz196_2 : wc.cell? ⟨gb137, 2, none⟩ = some (.slice Ao40 t153.length co40) := (blk_cell BK137.out 2).trans rfl
                have hfz196_0 := blk_frozen BK137.out 0
                have hfz196_1 := blk_frozen BK137.out 1
                have hfz196_2 := blk_frozen BK137.out 2
                go_wp2_with (first | ((with_reducible refine gate_callee (f := 19) rfl ?_); refine goesL_ (some 111) rfl rfl Try.func19 (by kernel_rfl) rfl #[.agg #[.int .i64 t128, .slice Ao39 t152.length co39, .slice Ao40 t153.length co40], .int .i64 1] rfl (by (try simp only [List.map_toArray, List.map_cons, List.map_nil]); first | done | rfl | (simp only [List.length_drop, List.length_take]; rfl)) ?_; (with_reducible refine (laws_heldSender.calls kj125 t128 _ _ t152 _ _ t153 1 t173 _ ?side1 ?side2 ?side3 ?side4 A183.out).mono ?_); (case side1 => repeat (first | exact (Kd.R_reads' HO_138001.out).2.2 | (with_reducible refine Kd.C_alloc ?_ _) | (with_reducible refine Kd.C_drewN ?_ _) | (with_reducible refine Kd.C_drew ?_))); (case side2 => exact (Kd.R_reads' HO_138001.out).2.1); (case side3 => repeat (first | exact (Kd.R_reads' HO_138002.out).2.2 | (with_reducible refine Kd.C_alloc ?_ _) | (with_reducible refine Kd.C_drewN ?_ _) | (with_reducible refine Kd.C_drew ?_))); (case side4 => exact (Kd.R_reads' HO_138002.out).2.1); rintro e w197 ⟨rfl, hb⟩; refine ⟨_, rfl, ?_⟩; have n0_ := sA (Kd.R_below (sR HO_120001.out) hb); have n1_ := sA (Kd.R_below (sR HO_120002.out) hb); have n2_ := sA (Kd.R_below (sR HO_128001.out) hb); have n3_ := sA (Kd.R_below (sR HO_128002.out) hb); have n4_ := sA (Kd.R_below (sR HO_138001.out) hb); have n5_ := sA (Kd.R_below (sR HO_138002.out) hb); have n6_ := sA (Kd.R_below (sR HO_172001.out) hb); have n7_ := sA (Kd.R_below (sR HO_172002.out) hb); have n8_ := sA (blk_below (g := gb101) (o := .cells #[.int .i64 a0_0, .slice A0_1 l0_1.length c0_1, .slice A0_2 l0_2.length c0_2] 25 (0, 0)) (sB BK101.out) hb); have n9_ := sA (blk_below (g := gb119) (o := .cells #[.int .i64 t110, .slice Ao23 t111.length co23, .slice Ao24 t114.length co24] 31 (0, 0)) (sB BK119.out) hb); have n10_ := sA (blk_below (g := gb127) (o := .cells #[.int .i64 t120, .slice Ao31 t148.length co31, .slice Ao32 t149.length co32] 31 (0, 0)) (sB BK127.out) hb); have n11_ := sA (blk_below (g := gb137) (o := .cells #[.int .i64 t128, .slice Ao39 t152.length co39, .slice Ao40 t153.length co40] 31 (0, 0)) (sB BK137.out) hb); have n12_ := sA (blk_below (g := gb171) (o := .cells #[.int .i64 t162, .slice Ao147 t163.length co147, .slice Ao148 t166.length co148] 31 (0, 0)) (sB BK171.out) hb); have n13_ := sA (below_step (by repeat (first | (with_reducible first | exact HB.out | apply below_alloc | apply pw_below_drewN | apply below_drew1 | refine below_set ?_ (Aside0.out (by assumption))) | exact HB.out)) hb); clear HO_120001; clear HO_120002; clear HO_128001; clear HO_128002; clear HO_138001; clear HO_138002; clear HO_172001; clear HO_172002; clear BK101; clear BK119; clear BK127; clear BK137; clear BK171; clear HB; have HO_120001 := n0_; have HO_120002 := n1_; have HO_128001 := n2_; have HO_128002 := n3_; have HO_138001 := n4_; have HO_138002 := n5_; have HO_172001 := n6_; have HO_172002 := n7_; have BK101 := n8_; have BK119 := n9_; have BK127 := n10_; have BK137 := n11_; have BK171 := n12_; have HB := n13_; clear n0_ n1_ n2_ n3_ n4_ n5_ n6_ n7_ n8_ n9_ n10_ n11_ n12_ n13_; (try clear hb); (try clear hb2); (try clear hk); (try clear hi)))
                go_ret
                exact ⟨by first | rfl | (simp [errW_none, errW_some] <;> rfl) | (simp [*, errW_none, errW_some] <;> rfl), by repeat (first | (with_reducible first | exact HB.out | apply below_alloc | apply pw_below_drewN | apply below_drew1 | refine below_set ?_ GE101.out | refine below_set ?_ GE119.out | refine below_set ?_ GE127.out | refine below_set ?_ GE137.out | refine below_set ?_ GE171.out) | exact HB.out)⟩
               ·rw [if_neg c191] at H
                have c191b0 : (t173 == t151) = false := beq_eq_false_iff_ne.mpr c191
                have c191b1 : (t173 != t151) = true := bne_iff_ne.mpr c191
                obtain rfl := Option.some.inj H
                have hnb198 := NB137_101.out
                have hnc198 := NB101_137.out
                have hnb199 := NB137_119.out
                have hnc199 := NB119_137.out
                have hnb200 := NB137_127.out
                have hnc200 := NB127_137.out
                have hnb201 := NB137_171.out
                have hnc201 := NB171_137.out
                have hcz202_0 : wc.cell? ⟨gb137, 0, none⟩ = some (.int .i64 t128) := (blk_cell BK137.out 0).trans rfl
                have hcz202_1 : wc.cell? ⟨gb137, 1, none⟩ = some (.slice Ao39 t152.length co39) := (blk_cell BK137.out 1).trans rfl
                have hcz202_2 : wc.cell? ⟨gb137, 2, none⟩ = some (.slice Ao40 t153.length co40) := (blk_cell BK137.out 2).trans rfl
                have hfz202_0 := blk_frozen BK137.out 0
                have hfz202_1 := blk_frozen BK137.out 1
                have hfz202_2 := blk_frozen BK137.out 2
                go_wp2_with (first | ((with_reducible refine gate_callee (f := 19) rfl ?_); refine goesL_ (some 111) rfl rfl Try.func19 (by kernel_rfl) rfl #[.agg #[.int .i64 t128, .slice Ao39 t152.length co39, .slice Ao40 t153.length co40], .int .i64 1] rfl (by (try simp only [List.map_toArray, List.map_cons, List.map_nil]); first | done | rfl | (simp only [List.length_drop, List.length_take]; rfl)) ?_; (with_reducible refine (laws_heldSender.calls kj125 t128 _ _ t152 _ _ t153 1 t173 _ ?side1 ?side2 ?side3 ?side4 A183.out).mono ?_); (case side1 => repeat (first | exact (Kd.R_reads' HO_138001.out).2.2 | (with_reducible refine Kd.C_alloc ?_ _) | (with_reducible refine Kd.C_drewN ?_ _) | (with_reducible refine Kd.C_drew ?_))); (case side2 => exact (Kd.R_reads' HO_138001.out).2.1); (case side3 => repeat (first | exact (Kd.R_reads' HO_138002.out).2.2 | (with_reducible refine Kd.C_alloc ?_ _) | (with_reducible refine Kd.C_drewN ?_ _) | (with_reducible refine Kd.C_drew ?_))); (case side4 => exact (Kd.R_reads' HO_138002.out).2.1); rintro e w203 ⟨rfl, hb⟩; refine ⟨_, rfl, ?_⟩; have n0_ := sA (Kd.R_below (sR HO_120001.out) hb); have n1_ := sA (Kd.R_below (sR HO_120002.out) hb); have n2_ := sA (Kd.R_below (sR HO_128001.out) hb); have n3_ := sA (Kd.R_below (sR HO_128002.out) hb); have n4_ := sA (Kd.R_below (sR HO_138001.out) hb); have n5_ := sA (Kd.R_below (sR HO_138002.out) hb); have n6_ := sA (Kd.R_below (sR HO_172001.out) hb); have n7_ := sA (Kd.R_below (sR HO_172002.out) hb); have n8_ := sA (blk_below (g := gb101) (o := .cells #[.int .i64 a0_0, .slice A0_1 l0_1.length c0_1, .slice A0_2 l0_2.length c0_2] 25 (0, 0)) (sB BK101.out) hb); have n9_ := sA (blk_below (g := gb119) (o := .cells #[.int .i64 t110, .slice Ao23 t111.length co23, .slice Ao24 t114.length co24] 31 (0, 0)) (sB BK119.out) hb); have n10_ := sA (blk_below (g := gb127) (o := .cells #[.int .i64 t120, .slice Ao31 t148.length co31, .slice Ao32 t149.length co32] 31 (0, 0)) (sB BK127.out) hb); have n11_ := sA (blk_below (g := gb137) (o := .cells #[.int .i64 t128, .slice Ao39 t152.length co39, .slice Ao40 t153.length co40] 31 (0, 0)) (sB BK137.out) hb); have n12_ := sA (blk_below (g := gb171) (o := .cells #[.int .i64 t162, .slice Ao147 t163.length co147, .slice Ao148 t166.length co148] 31 (0, 0)) (sB BK171.out) hb); have n13_ := sA (below_step (by repeat (first | (with_reducible first | exact HB.out | apply below_alloc | apply pw_below_drewN | apply below_drew1 | refine below_set ?_ (Aside0.out (by assumption))) | exact HB.out)) hb); clear HO_120001; clear HO_120002; clear HO_128001; clear HO_128002; clear HO_138001; clear HO_138002; clear HO_172001; clear HO_172002; clear BK101; clear BK119; clear BK127; clear BK137; clear BK171; clear HB; have HO_120001 := n0_; have HO_120002 := n1_; have HO_128001 := n2_; have HO_128002 := n3_; have HO_138001 := n4_; have HO_138002 := n5_; have HO_172001 := n6_; have HO_172002 := n7_; have BK101 := n8_; have BK119 := n9_; have BK127 := n10_; have BK137 := n11_; have BK171 := n12_; have HB := n13_; clear n0_ n1_ n2_ n3_ n4_ n5_ n6_ n7_ n8_ n9_ n10_ n11_ n12_ n13_; (try clear hb); (try clear hb2); (try clear hk); (try clear hi)))
                go_ret
                exact ⟨by first | rfl | (simp [errW_none, errW_some] <;> rfl) | (simp [*, errW_none, errW_some] <;> rfl), by repeat (first | (with_reducible first | exact HB.out | apply below_alloc | apply pw_below_drewN | apply below_drew1 | refine below_set ?_ GE101.out | refine below_set ?_ GE119.out | refine below_set ?_ GE127.out | refine below_set ?_ GE137.out | refine below_set ?_ GE171.out) | exact HB.out)⟩
          ·rw [if_neg c123] at H
           have c123b0 : (t154 == t151) = false := beq_eq_false_iff_ne.mpr c123
           have c123b1 : (t154 != t151) = true := bne_iff_ne.mpr c123
           obtain rfl := Option.some.inj H
           have hnb204 := NB137_101.out
           have hnc204 := NB101_137.out
           have hnb205 := NB137_119.out
           have hnc205 := NB119_137.out
           have hnb206 := NB137_127.out
           have hnc206 := NB127_137.out
           have hcz207_0 : wc.cell? ⟨gb137, 0, none⟩ = some (.int .i64 t128) := (blk_cell BK137.out 0).trans rfl
           have hcz207_1 : wc.cell? ⟨gb137, 1, none⟩ = some (.slice Ao39 t129.length co39) := (blk_cell BK137.out 1).trans rfl
           have hcz207_2 : wc.cell? ⟨gb137, 2, none⟩ = some (.slice Ao40 t132.length co40) := (blk_cell BK137.out 2).trans rfl
           have hfz207_0 := blk_frozen BK137.out 0
           have hfz207_1 := blk_frozen BK137.out 1
           have hfz207_2 := blk_frozen BK137.out 2
           go_wp2_with (first | ((with_reducible refine gate_callee (f := 14) rfl ?_); refine goesL_ (some 79) rfl rfl Try.func14 (by kernel_rfl) rfl #[.agg #[.int .i64 t128, .slice Ao39 t129.length co39, .slice Ao40 t132.length co40], .int .i64 1] rfl (by (try simp only [List.map_toArray, List.map_cons, List.map_nil]); first | done | rfl | (simp only [List.length_drop, List.length_take]; rfl)) ?_; (with_reducible refine (laws_markSender.calls kj72 t128 (fun k_ => some k_ = (.slice Ao39 t129.length co39 : Value).ownBlock) (.slice Ao39 t129.length co39) t129 (fun k_ => some k_ = (.slice Ao40 t132.length co40 : Value).ownBlock) (.slice Ao40 t132.length co40) t132 1 t151 t152 t153 w _ ?side1 ?side2 ?side3 A113.out).mono ?_); (case side1 => repeat (first | (with_reducible first | exact HB.out | apply below_alloc | apply pw_below_drewN | apply below_drew1 | refine below_set ?_ GE101.out | refine below_set ?_ GE119.out | refine below_set ?_ GE127.out | refine below_set ?_ GE137.out) | exact HB.out)); (case side2 => exact Kd.R_tight rfl HO_138001.out); (case side3 => exact Kd.R_tight rfl HO_138002.out); rintro e w208 ⟨rfl, hy0, hy1, hb, hkp⟩; refine ⟨_, rfl, ?_⟩; have n0_ := sA (Kd.R_mono (ok' := fun k_ => some k_ ≠ (.slice Ao31 t148.length co31 : Value).ownBlock ∧ some k_ ≠ (.slice Ao39 t129.length co39 : Value).ownBlock) (Kd.R_keptB ((Kd.R_apart' HO_120001.out (Kd.R_typed HO_138002.out) (by decide))) hkp (fun k_ hk_ hs_ => Or.elim hs_ (fun e_ => (hk_.1.2) e_) (fun e_ => (hk_.2) e_))) (fun k_ hk_ => ⟨hk_.1.1.1, hk_.1.1.2⟩)); have n1_ := sA (Kd.R_mono (ok' := fun k_ => some k_ ≠ (.slice Ao32 t149.length co32 : Value).ownBlock ∧ some k_ ≠ (.slice Ao40 t132.length co40 : Value).ownBlock) (Kd.R_keptB ((Kd.R_apart' HO_120002.out (Kd.R_typed HO_138001.out) (by decide))) hkp (fun k_ hk_ hs_ => Or.elim hs_ (fun e_ => (hk_.2) e_) (fun e_ => (hk_.1.2) e_))) (fun k_ hk_ => ⟨hk_.1.1.1, hk_.1.1.2⟩)); have n2_ := sA (Kd.R_mono (ok' := fun k_ => some k_ ≠ (.slice Ao23 t111.length co23 : Value).ownBlock ∧ some k_ ≠ (.slice Ao39 t129.length co39 : Value).ownBlock) (Kd.R_keptB ((Kd.R_apart' HO_128001.out (Kd.R_typed HO_138002.out) (by decide))) hkp (fun k_ hk_ hs_ => Or.elim hs_ (fun e_ => (hk_.1.2) e_) (fun e_ => (hk_.2) e_))) (fun k_ hk_ => ⟨hk_.1.1.1, hk_.1.1.2⟩)); have n3_ := sA (Kd.R_mono (ok' := fun k_ => some k_ ≠ (.slice Ao24 t114.length co24 : Value).ownBlock ∧ some k_ ≠ (.slice Ao40 t132.length co40 : Value).ownBlock) (Kd.R_keptB ((Kd.R_apart' HO_128002.out (Kd.R_typed HO_138001.out) (by decide))) hkp (fun k_ hk_ hs_ => Or.elim hs_ (fun e_ => (hk_.2) e_) (fun e_ => (hk_.1.2) e_))) (fun k_ hk_ => ⟨hk_.1.1.1, hk_.1.1.2⟩)); have n4_ := sA (Kd.R_reok rfl hy0 (fun k_ e_ => HO_138001.out.1 k_ e_)); have n5_ := sA (Kd.R_reok rfl hy1 (fun k_ e_ => HO_138002.out.1 k_ e_)); have n6_ := sA (blk_kept (sB BK101.out) hkp (fun hs_ => Or.elim hs_ (fun e_ => (fun e_ => (Kd.R_ne HO_138001.out BK101.out (by decide)) e_) e_) (fun e_ => (fun e_ => (Kd.R_ne HO_138002.out BK101.out (by decide)) e_) e_))); have n7_ := sA (blk_kept (sB BK119.out) hkp (fun hs_ => Or.elim hs_ (fun e_ => (fun e_ => (Kd.R_ne HO_138001.out BK119.out (by decide)) e_) e_) (fun e_ => (fun e_ => (Kd.R_ne HO_138002.out BK119.out (by decide)) e_) e_))); have n8_ := sA (blk_kept (sB BK127.out) hkp (fun hs_ => Or.elim hs_ (fun e_ => (fun e_ => (Kd.R_ne HO_138001.out BK127.out (by decide)) e_) e_) (fun e_ => (fun e_ => (Kd.R_ne HO_138002.out BK127.out (by decide)) e_) e_))); have n9_ := sA (blk_kept (sB BK137.out) hkp (fun hs_ => Or.elim hs_ (fun e_ => (fun e_ => (Kd.R_ne HO_138001.out BK137.out (by decide)) e_) e_) (fun e_ => (fun e_ => (Kd.R_ne HO_138002.out BK137.out (by decide)) e_) e_))); have n10_ := sA (hb); clear HO_120001; clear HO_120002; clear HO_128001; clear HO_128002; clear HO_138001; clear HO_138002; clear BK101; clear BK119; clear BK127; clear BK137; clear HB; have HO_120001 := n0_; have HO_120002 := n1_; have HO_128001 := n2_; have HO_128002 := n3_; have HO_138001 := n4_; have HO_138002 := n5_; have BK101 := n6_; have BK119 := n7_; have BK127 := n8_; have BK137 := n9_; have HB := n10_; clear n0_ n1_ n2_ n3_ n4_ n5_ n6_ n7_ n8_ n9_ n10_; (try clear hb); (try clear hkp); (try clear hy0); (try clear hy1); have hcz209_0 : w208.cell? ⟨gb137, 0, none⟩ = some (.int .i64 t128) := (blk_cell BK137.out 0).trans rfl; have hcz209_1 : w208.cell? ⟨gb137, 1, none⟩ = some (.slice Ao39 t129.length co39) := (blk_cell BK137.out 1).trans rfl; have hcz209_2 : w208.cell? ⟨gb137, 2, none⟩ = some (.slice Ao40 t132.length co40) := (blk_cell BK137.out 2).trans rfl; have hfz209_0 := blk_frozen BK137.out 0; have hfz209_1 := blk_frozen BK137.out 1; have hfz209_2 := blk_frozen BK137.out 2) | ((with_reducible refine gate_callee (f := 19) rfl ?_); refine goesL_ (some 82) rfl rfl Try.func19 (by kernel_rfl) rfl #[.agg #[.int .i64 t128, .slice Ao39 t152.length co39, .slice Ao40 t153.length co40], .int .i64 1] rfl (by (try simp only [List.map_toArray, List.map_cons, List.map_nil]); first | done | (rw [show t152.length = t129.length from (Kd.R_reads' HO_138001.out).1.symm, show t153.length = t132.length from (Kd.R_reads' HO_138002.out).1.symm] <;> rfl) | rfl | (simp only [List.length_drop, List.length_take]; rfl)) ?_; (with_reducible refine (laws_heldSender.calls kj72 t128 _ _ t152 _ _ t153 1 t154 _ ?side1 ?side2 ?side3 ?side4 A114.out).mono ?_); (case side1 => repeat (first | exact (Kd.R_reads' HO_138001.out).2.2 | (with_reducible refine Kd.C_alloc ?_ _) | (with_reducible refine Kd.C_drewN ?_ _) | (with_reducible refine Kd.C_drew ?_))); (case side2 => rw [show t152.length = t129.length from (Kd.R_reads' HO_138001.out).1.symm]; exact (Kd.R_reads' HO_138001.out).2.1); (case side3 => repeat (first | exact (Kd.R_reads' HO_138002.out).2.2 | (with_reducible refine Kd.C_alloc ?_ _) | (with_reducible refine Kd.C_drewN ?_ _) | (with_reducible refine Kd.C_drew ?_))); (case side4 => rw [show t153.length = t132.length from (Kd.R_reads' HO_138002.out).1.symm]; exact (Kd.R_reads' HO_138002.out).2.1); rintro e w210 ⟨rfl, hb⟩; refine ⟨_, rfl, ?_⟩; have n0_ := sA (Kd.R_below (sR HO_120001.out) hb); have n1_ := sA (Kd.R_below (sR HO_120002.out) hb); have n2_ := sA (Kd.R_below (sR HO_128001.out) hb); have n3_ := sA (Kd.R_below (sR HO_128002.out) hb); have n4_ := sA (Kd.R_below (sR HO_138001.out) hb); have n5_ := sA (Kd.R_below (sR HO_138002.out) hb); have n6_ := sA (blk_below (g := gb101) (o := .cells #[.int .i64 a0_0, .slice A0_1 l0_1.length c0_1, .slice A0_2 l0_2.length c0_2] 25 (0, 0)) (sB BK101.out) hb); have n7_ := sA (blk_below (g := gb119) (o := .cells #[.int .i64 t110, .slice Ao23 t111.length co23, .slice Ao24 t114.length co24] 31 (0, 0)) (sB BK119.out) hb); have n8_ := sA (blk_below (g := gb127) (o := .cells #[.int .i64 t120, .slice Ao31 t148.length co31, .slice Ao32 t149.length co32] 31 (0, 0)) (sB BK127.out) hb); have n9_ := sA (blk_below (g := gb137) (o := .cells #[.int .i64 t128, .slice Ao39 t129.length co39, .slice Ao40 t132.length co40] 31 (0, 0)) (sB BK137.out) hb); have n10_ := sA (below_step (by repeat (first | (with_reducible first | exact HB.out | apply below_alloc | apply pw_below_drewN | apply below_drew1 | refine below_set ?_ (Aside0.out (by assumption))) | exact HB.out)) hb); clear HO_120001; clear HO_120002; clear HO_128001; clear HO_128002; clear HO_138001; clear HO_138002; clear BK101; clear BK119; clear BK127; clear BK137; clear HB; have HO_120001 := n0_; have HO_120002 := n1_; have HO_128001 := n2_; have HO_128002 := n3_; have HO_138001 := n4_; have HO_138002 := n5_; have BK101 := n6_; have BK119 := n7_; have BK127 := n8_; have BK137 := n9_; have HB := n10_; clear n0_ n1_ n2_ n3_ n4_ n5_ n6_ n7_ n8_ n9_ n10_; (try clear hb); (try clear hb2); (try clear hk); (try clear hi)))
           go_ret
           exact ⟨by first | rfl | (simp [errW_none, errW_some] <;> rfl) | (simp [*, errW_none, errW_some] <;> rfl), by repeat (first | (with_reducible first | exact HB.out | apply below_alloc | apply pw_below_drewN | apply below_drew1 | refine below_set ?_ GE101.out | refine below_set ?_ GE119.out | refine below_set ?_ GE127.out | refine below_set ?_ GE137.out) | exact HB.out)⟩
     ·replace c71 := Bool.eq_false_iff.mpr c71
      subst c71
      have H1 : (some false) = some r := by rw [if_neg (show ¬ (false = true) by decide)] at H; exact H
      clear H
      have H := H1
      clear H1
      obtain rfl := Option.some.inj H
      try go_wp2
      have n0_ := sA (Kd.R_drew HO_120001.out)
      have n1_ := sA (Kd.R_drew HO_120002.out)
      have n2_ := sA (Kd.R_drew HO_128001.out)
      have n3_ := sA (Kd.R_drew HO_128002.out)
      have n4_ := sA (Kd.R_drew HO_138001.out)
      have n5_ := sA (Kd.R_drew HO_138002.out)
      have n6_ := sA (blk_drew BK101.out)
      have n7_ := sA (blk_drew BK119.out)
      have n8_ := sA (blk_drew BK127.out)
      have n9_ := sA (blk_drew BK137.out)
      have n10_ := sA (below_drew1 HB.out)
      clear HO_120001
      clear HO_120002
      clear HO_128001
      clear HO_128002
      clear HO_138001
      clear HO_138002
      clear BK101
      clear BK119
      clear BK127
      clear BK137
      clear HB
      have HO_120001 := n0_
      have HO_120002 := n1_
      have HO_128001 := n2_
      have HO_128002 := n3_
      have HO_138001 := n4_
      have HO_138002 := n5_
      have BK101 := n6_
      have BK119 := n7_
      have BK127 := n8_
      have BK137 := n9_
      have HB := n10_
      clear n0_ n1_ n2_ n3_ n4_ n5_ n6_ n7_ n8_ n9_ n10_
      refine start_ (n := 5) (S := fun w' => w'.cell? ⟨gb127, 0, none⟩ = some (.int .i64 t120) ∧ w'.cell? ⟨gb127, 1, none⟩ = some (.slice Ao31 t121.length co31) ∧ w'.cell? ⟨gb127, 2, none⟩ = some (.slice Ao32 t124.length co32) ∧ w'.cell? ⟨gb101, 0, none⟩ = some (.int .i64 a0_0) ∧ w'.cell? ⟨gb101, 1, none⟩ = some (.slice A0_1 l0_1.length c0_1) ∧ w'.cell? ⟨gb101, 2, none⟩ = some (.slice A0_2 l0_2.length c0_2)) (ds := []) #[false, false, false, false, false] (by kernel_rfl) rfl rfl ⟨(blk_cell BK127.out 0).trans rfl, (blk_cell BK127.out 1).trans rfl, (blk_cell BK127.out 2).trans rfl, (blk_cell BK101.out 0).trans rfl, (blk_cell BK101.out 1).trans rfl, (blk_cell BK101.out 2).trans rfl⟩ (fun hHeld => ?_)
      generalize wc.drew = w211 at HO_120001 HO_120002 HO_128001 HO_128002 HO_138001 HO_138002 BK101 BK119 BK127 BK137 HB hHeld ⊢
      refine take_ (i := 0) (N := some 51) (v := ?_) (a' := ?_) #[true, false, false, false, false] rfl rfl (by kernel_rfl) (fun _ _ _ h => h) (Or.inl ⟨by rfl, ?_⟩) hHeld ?_ ?_
      rotate_left
      ·rintro w' ⟨s0, s1, s2, s3, s4, s5⟩
       go_simp
       with_reducible rfl
      rotate_left
      ·simp only [Act.put, List.setIfInBounds_toArray, List.set_cons_zero, List.set_cons_succ, i64_w, i32_w]
       rfl
      refine take_ (i := 1) (N := some 52) (v := ?_) (a' := ?_) #[true, true, false, false, false] rfl rfl (by kernel_rfl) (fun _ _ _ h => h) (Or.inl ⟨by rfl, ?_⟩) hHeld ?_ ?_
      rotate_left
      ·rintro w' ⟨s0, s1, s2, s3, s4, s5⟩
       go_simp
       with_reducible rfl
      rotate_left
      ·simp only [Act.put, List.setIfInBounds_toArray, List.set_cons_zero, List.set_cons_succ, i64_w, i32_w]
       rfl
      refine one_ (i := 2) (N := some 53) #[true, true, true, false, false] rfl rfl (by kernel_rfl) (by decide) (fun K hK => ?_)
      refine goes_ Try.func10 (by kernel_rfl) rfl #[.agg #[.int .i64 a0_0, .slice A0_1 l0_1.length c0_1, .slice A0_2 l0_2.length c0_2]] (by rfl) rfl rfl (by (try simp only [List.map_toArray, List.map_cons, List.map_nil]); first | done | rfl | (simp only [List.length_drop, List.length_take]; rfl)) ?_
      with_reducible refine (laws_toSender.calls kj10 a0_0 _ _ l0_1 _ _ l0_2 t139 t140 t143 _ ?side1 ?side2 ?side3 ?side4 A69.out).mono ?_
      (case side1 => repeat (first | exact (Kd.C_below HR0_1.out HB.out) | (with_reducible refine Kd.C_alloc ?_ _) | (with_reducible refine Kd.C_drewN ?_ _) | (with_reducible refine Kd.C_drew ?_)))
      (case side2 => exact HC0_1.out)
      (case side3 => repeat (first | exact (Kd.C_below HR0_2.out HB.out) | (with_reducible refine Kd.C_alloc ?_ _) | (with_reducible refine Kd.C_drewN ?_ _) | (with_reducible refine Kd.C_drew ?_)))
      (case side4 => exact HC0_2.out)
      rintro e w212 ⟨v141, v144, rfl, ho0, ho1, hb⟩
      refine ⟨_, rfl, ?_⟩
      have n0_ := sA (Kd.R_elder' (sR HO_120001.out) (Kd.R_base ho0) hb)
      have n1_ := sA (Kd.R_elder' (sR HO_120002.out) (Kd.R_base ho1) hb)
      have n2_ := sA (Kd.R_elder' (sR HO_128001.out) (Kd.R_base ho0) hb)
      have n3_ := sA (Kd.R_elder' (sR HO_128002.out) (Kd.R_base ho1) hb)
      have n4_ := sA (Kd.R_elder' (sR HO_138001.out) (Kd.R_base ho0) hb)
      have n5_ := sA (Kd.R_elder' (sR HO_138002.out) (Kd.R_base ho1) hb)
      have n6_ := sA (Kd.R_lower (Kd.R_new' (Kd.R_new' (Kd.R_new' ho0 (Kd.R_lt (sR HO_120001.out))) (Kd.R_lt (sR HO_128001.out))) (Kd.R_lt (sR HO_138001.out))) (below_size (by repeat (first | (with_reducible first | exact HB.out | apply below_alloc | apply pw_below_drewN | apply below_drew1 | refine below_set ?_ (Aside0.out (by assumption))) | exact HB.out))))
      have n7_ := sA (Kd.R_lower (Kd.R_new' (Kd.R_new' (Kd.R_new' ho1 (Kd.R_lt (sR HO_120002.out))) (Kd.R_lt (sR HO_128002.out))) (Kd.R_lt (sR HO_138002.out))) (below_size (by repeat (first | (with_reducible first | exact HB.out | apply below_alloc | apply pw_below_drewN | apply below_drew1 | refine below_set ?_ (Aside0.out (by assumption))) | exact HB.out))))
      have n8_ := sA (blk_below (g := gb101) (o := .cells #[.int .i64 a0_0, .slice A0_1 l0_1.length c0_1, .slice A0_2 l0_2.length c0_2] 25 (0, 0)) (sB BK101.out) hb)
      have n9_ := sA (blk_below (g := gb119) (o := .cells #[.int .i64 t110, .slice Ao23 t111.length co23, .slice Ao24 t114.length co24] 31 (0, 0)) (sB BK119.out) hb)
      have n10_ := sA (blk_below (g := gb127) (o := .cells #[.int .i64 t120, .slice Ao31 t121.length co31, .slice Ao32 t124.length co32] 31 (0, 0)) (sB BK127.out) hb)
      have n11_ := sA (blk_below (g := gb137) (o := .cells #[.int .i64 t128, .slice Ao39 t129.length co39, .slice Ao40 t132.length co40] 31 (0, 0)) (sB BK137.out) hb)
      have n12_ := sA (below_step (by repeat (first | (with_reducible first | exact HB.out | apply below_alloc | apply pw_below_drewN | apply below_drew1 | refine below_set ?_ (Aside0.out (by assumption))) | exact HB.out)) hb)
      clear HO_120001
      clear HO_120002
      clear HO_128001
      clear HO_128002
      clear HO_138001
      clear HO_138002
      clear BK101
      clear BK119
      clear BK127
      clear BK137
      clear HB
      have HO_120001 := n0_
      have HO_120002 := n1_
      have HO_128001 := n2_
      have HO_128002 := n3_
      have HO_138001 := n4_
      have HO_138002 := n5_
      have HO142 := n6_
      have HO145 := n7_
      have BK101 := n8_
      have BK119 := n9_
      have BK127 := n10_
      have BK137 := n11_
      have HB := n12_
      clear n0_ n1_ n2_ n3_ n4_ n5_ n6_ n7_ n8_ n9_ n10_ n11_ n12_
      (try clear hb)
      (try clear hb2)
      (try clear hk)
      (try clear hi)
      (try clear ho0)
      (try clear ho1)
      obtain ⟨Ao213, co213, eo213⟩ := Kd.R_slice HO142.out
      (first | subst eo213 | (injection eo213 with f1_ f2_ f3_; have f4_ := f1_.symm; have f5_ := f3_.symm; clear f1_ f2_ f3_; subst f4_; subst f5_))
      obtain ⟨Ao214, co214, eo214⟩ := Kd.R_slice HO145.out
      (first | subst eo214 | (injection eo214 with f1_ f2_ f3_; have f4_ := f1_.symm; have f5_ := f3_.symm; clear f1_ f2_ f3_; subst f4_; subst f5_))
      refine hK.out _ _ ⟨(blk_cell BK127.out 0).trans rfl, (blk_cell BK127.out 1).trans rfl, (blk_cell BK127.out 2).trans rfl, (blk_cell BK101.out 0).trans rfl, (blk_cell BK101.out 1).trans rfl, (blk_cell BK101.out 2).trans rfl⟩ (fun hHeld => ?_)
      clear hK K
      refine norm_ (a' := ?_) ?_ ?_
      rotate_left
      ·show Act.put _ (some 53) _ = _
       simp only [Act.put, List.setIfInBounds_toArray, List.set_cons_zero, List.set_cons_succ, i64_w, i32_w]
       rfl
      refine one_ (i := 3) (N := some 54) #[true, true, true, true, false] rfl rfl (by kernel_rfl) (by decide) (fun K hK => ?_)
      refine goes_ Try.func13 (by kernel_rfl) rfl #[.agg #[.int .i64 t120, .slice Ao31 t121.length co31, .slice Ao32 t124.length co32], .agg #[.int .i64 t139, .slice Ao213 t140.length co213, .slice Ao214 t143.length co214]] (by rfl) rfl rfl (by (try simp only [List.map_toArray, List.map_cons, List.map_nil]); first | done | rfl | (simp only [List.length_drop, List.length_take]; rfl)) ?_
      with_reducible refine (laws_eqSender.calls kj10 t120 _ _ t121 _ _ t124 t139 _ _ t140 _ _ t143 false _ ?side1 ?side2 ?side3 ?side4 ?side5 ?side6 ?side7 ?side8 A70.out).mono ?_
      (case side1 => repeat (first | exact (Kd.R_reads' HO_128001.out).2.2 | (with_reducible refine Kd.C_alloc ?_ _) | (with_reducible refine Kd.C_drewN ?_ _) | (with_reducible refine Kd.C_drew ?_)))
      (case side2 => exact (Kd.R_reads' HO_128001.out).2.1)
      (case side3 => repeat (first | exact (Kd.R_reads' HO_128002.out).2.2 | (with_reducible refine Kd.C_alloc ?_ _) | (with_reducible refine Kd.C_drewN ?_ _) | (with_reducible refine Kd.C_drew ?_)))
      (case side4 => exact (Kd.R_reads' HO_128002.out).2.1)
      (case side5 => repeat (first | exact (Kd.R_reads' HO142.out).2.2 | (with_reducible refine Kd.C_alloc ?_ _) | (with_reducible refine Kd.C_drewN ?_ _) | (with_reducible refine Kd.C_drew ?_)))
      (case side6 => exact (Kd.R_reads' HO142.out).2.1)
      (case side7 => repeat (first | exact (Kd.R_reads' HO145.out).2.2 | (with_reducible refine Kd.C_alloc ?_ _) | (with_reducible refine Kd.C_drewN ?_ _) | (with_reducible refine Kd.C_drew ?_)))
      (case side8 => exact (Kd.R_reads' HO145.out).2.1)
      rintro e w215 ⟨rfl, hb⟩
      refine ⟨_, rfl, ?_⟩
      have n0_ := sA (Kd.R_below (sR HO_120001.out) hb)
      have n1_ := sA (Kd.R_below (sR HO_120002.out) hb)
      have n2_ := sA (Kd.R_below (sR HO_128001.out) hb)
      have n3_ := sA (Kd.R_below (sR HO_128002.out) hb)
      have n4_ := sA (Kd.R_below (sR HO_138001.out) hb)
      have n5_ := sA (Kd.R_below (sR HO_138002.out) hb)
      have n6_ := sA (Kd.R_below (sR HO142.out) hb)
      have n7_ := sA (Kd.R_below (sR HO145.out) hb)
      have n8_ := sA (blk_below (g := gb101) (o := .cells #[.int .i64 a0_0, .slice A0_1 l0_1.length c0_1, .slice A0_2 l0_2.length c0_2] 25 (0, 0)) (sB BK101.out) hb)
      have n9_ := sA (blk_below (g := gb119) (o := .cells #[.int .i64 t110, .slice Ao23 t111.length co23, .slice Ao24 t114.length co24] 31 (0, 0)) (sB BK119.out) hb)
      have n10_ := sA (blk_below (g := gb127) (o := .cells #[.int .i64 t120, .slice Ao31 t121.length co31, .slice Ao32 t124.length co32] 31 (0, 0)) (sB BK127.out) hb)
      have n11_ := sA (blk_below (g := gb137) (o := .cells #[.int .i64 t128, .slice Ao39 t129.length co39, .slice Ao40 t132.length co40] 31 (0, 0)) (sB BK137.out) hb)
      have n12_ := sA (below_step (by repeat (first | (with_reducible first | exact HB.out | apply below_alloc | apply pw_below_drewN | apply below_drew1 | refine below_set ?_ (Aside0.out (by assumption))) | exact HB.out)) hb)
      clear HO_120001
      clear HO_120002
      clear HO_128001
      clear HO_128002
      clear HO_138001
      clear HO_138002
      clear HO142
      clear HO145
      clear BK101
      clear BK119
      clear BK127
      clear BK137
      clear HB
      have HO_120001 := n0_
      have HO_120002 := n1_
      have HO_128001 := n2_
      have HO_128002 := n3_
      have HO_138001 := n4_
      have HO_138002 := n5_
      have HO142 := n6_
      have HO145 := n7_
      have BK101 := n8_
      have BK119 := n9_
      have BK127 := n10_
      have BK137 := n11_
      have HB := n12_
      clear n0_ n1_ n2_ n3_ n4_ n5_ n6_ n7_ n8_ n9_ n10_ n11_ n12_
      (try clear hb)
      (try clear hb2)
      (try clear hk)
      (try clear hi)
      refine hK.out _ _ ⟨(blk_cell BK127.out 0).trans rfl, (blk_cell BK127.out 1).trans rfl, (blk_cell BK127.out 2).trans rfl, (blk_cell BK101.out 0).trans rfl, (blk_cell BK101.out 1).trans rfl, (blk_cell BK101.out 2).trans rfl⟩ (fun hHeld => ?_)
      clear hK K
      refine norm_ (a' := ?_) ?_ ?_
      rotate_left
      ·show Act.put _ (some 54) _ = _
       simp only [Act.put, List.setIfInBounds_toArray, List.set_cons_zero, List.set_cons_succ, i64_w, i32_w]
       rfl
      refine pure_ (i := 4) (N := some 55) (v := ?_) (a' := ?_) #[true, true, true, true, true] rfl rfl (by kernel_rfl) (fun _ _ _ h => h) (Or.inl ⟨by rfl, ?_⟩) ?_ ?_
      rotate_left
      ·intro w'
       go_simp
       with_reducible rfl
      rotate_left
      ·simp only [Act.put, List.setIfInBounds_toArray, List.set_cons_zero, List.set_cons_succ, i64_w, i32_w]
       rfl
      refine done_ (by kernel_rfl) ?_
      try go_wp2
      go_ret
      exact ⟨by first | rfl | (simp [errW_none, errW_some] <;> rfl) | (simp [*, errW_none, errW_some] <;> rfl), by repeat (first | (with_reducible first | exact HB.out | apply below_alloc | apply pw_below_drewN | apply below_drew1 | refine below_set ?_ GE101.out | refine below_set ?_ GE119.out | refine below_set ?_ GE127.out | refine below_set ?_ GE137.out) | exact HB.out)⟩

end Go.Proofs.Ytligcknlmbgbiaa.P
