/- FnExactHearSpans: for every input that can be read, the law returns true and its arguments read as before. Conditions: none beyond the row's own. (Part 6 of 7: contracts made by pw.py with the kit's print, contracts by hand, plain laws, the row.) -/
import Derived.Test.YtligcknlmbgbiaaMFnExactHearSpans4
import Derived.ChangeArms
import Derived.ChangeSame
import Derived.ChangeSlices
import Derived.WideShapes
import Derived.ProofKit
import Derived.KernelRfl
import Derived.Lib.SlicesCompact

namespace Go.Proofs.Ytligcknlmbgbiaa.P
open Go.RowKit Go.Proofs.YtligcknlmbgbiaaW.PrintWords Go.Proofs.YtligcknlmbgbiaaW.PrintLast Go.Proofs.YtligcknlmbgbiaaW.PrintMore
attribute [local go_sem] max2_int min2_int max_two min_two max_three min_three max_four min_four
set_option linter.unusedVariables false
set_option linter.unusedSimpArgs false

/-! ### laws_FnExactHearSpans: function 5 -/
mutual
def laws_FnExactHearSpans.j0 : Nat → List (S62) → List Int → List Int → Bool → List (S59) → List Int → List Int → Bool → Bool → Int → List (S62) → List Int → Int → List (S59) → List Int → Int → List (S59) → List Int → Int → List (S59) → List Int → Option (Bool)
  | 0, _, _, _, _, _, _, _, _, _, _, _, _, _, _, _, _, _, _, _, _, _ => none
  | k + 1, x1, x7, x8, x9, x11, x13, x14, x15, x75, x102000, x102001, x102002, x129000, x129001, x129002, x137000, x137001, x137002, x155000, x155001, x155002 => if x75 = true then (some false) else ((laws_toSender.f k x102000 x102001 x102002).bind fun bt158 => ((laws_eqSender.f k x137000 x137001 x137002 bt158.1 bt158.2.1 bt158.2.2).bind fun t165 => (if t165 = true then ((laws_toSpanS.f k x1).bind fun t166 => ((laws_eqSpanS.f k x11 t166).bind fun t169 => (if t169 = true then ((laws_markSender.f k x137000 x137001 x137002 1).bind fun bt170 => ((laws_markSpanS.f k x11 bt170.1).bind fun bt173 => (if bt173.1 < 0 then (laws_FnExactHearSpans.j1 k x1 x7 x8 x9 x13 x14 true x102000 x102001 x102002 x129000 x129001 x129002 x155000 x155001 x155002) else ((laws_eqSender.f k x155000 x155001 x155002 x129000 x129001 x129002).bind fun t175 => (if t175 = true then ((laws_eqIntS.f k x13 x7).bind fun t176 => (if t176 = true then ((laws_eqIntS.f k x14 x8).bind fun t177 => (if t177 = true then (laws_FnExactHearSpans.j1 k x1 x7 x8 x9 x13 x14 (x15 != x9) x102000 x102001 x102002 x129000 x129001 x129002 x155000 x155001 x155002) else (laws_FnExactHearSpans.j1 k x1 x7 x8 x9 x13 x14 true x102000 x102001 x102002 x129000 x129001 x129002 x155000 x155001 x155002))) else (laws_FnExactHearSpans.j1 k x1 x7 x8 x9 x13 x14 true x102000 x102001 x102002 x129000 x129001 x129002 x155000 x155001 x155002))) else (laws_FnExactHearSpans.j1 k x1 x7 x8 x9 x13 x14 true x102000 x102001 x102002 x129000 x129001 x129002 x155000 x155001 x155002)))))) else (some false)))) else (some false))))
def laws_FnExactHearSpans.j1 : Nat → List (S62) → List Int → List Int → Bool → List Int → List Int → Bool → Int → List (S62) → List Int → Int → List (S59) → List Int → Int → List (S59) → List Int → Option (Bool)
  | 0, _, _, _, _, _, _, _, _, _, _, _, _, _, _, _, _ => none
  | k + 1, x1, x7, x8, x9, x13, x14, x116, x102000, x102001, x102002, x129000, x129001, x129002, x155000, x155001, x155002 => if x116 = true then (some false) else ((laws_markSender.f k x155000 x155001 x155002 1).bind fun bt178 => ((laws_markIntS.f k x13 bt178.1).bind fun bt181 => ((laws_markIntS.f k x14 bt181.1).bind fun bt183 => ((laws_heldSender.f k x155000 bt178.2.1 bt178.2.2 1).bind fun t185 => (if t185 < 0 then (some false) else ((laws_heldIntS.f k bt181.2 t185).bind fun t186 => (if t186 < 0 then (some false) else ((laws_heldIntS.f k bt183.2 t186).bind fun t187 => (if t187 < 0 then (some false) else (if t187 = bt183.1 then ((laws_toSender.f k x102000 x102001 x102002).bind fun bt188 => ((laws_toSpanS.f k x1).bind fun t195 => ((impl_HearSpans.f k bt188.1 bt188.2.1 bt188.2.2 t195).bind fun bt198 => ((laws_eqSender.f k bt198.1 bt198.2.1 bt198.2.2.1 x129000 x129001 x129002).bind fun t213 => (if t213 = true then ((laws_eqIntS.f k bt198.2.2.2.1 x7).bind fun t214 => (if t214 = true then ((laws_eqIntS.f k bt198.2.2.2.2.1 x8).bind fun t215 => (if t215 = true then (laws_FnExactHearSpans.j2 k bt181.2 bt183.2 bt183.1 (bt198.2.2.2.2.2 != x9) x155000 bt178.2.1 bt178.2.2) else (laws_FnExactHearSpans.j2 k bt181.2 bt183.2 bt183.1 true x155000 bt178.2.1 bt178.2.2))) else (laws_FnExactHearSpans.j2 k bt181.2 bt183.2 bt183.1 true x155000 bt178.2.1 bt178.2.2))) else (laws_FnExactHearSpans.j2 k bt181.2 bt183.2 bt183.1 true x155000 bt178.2.1 bt178.2.2)))))) else (some false)))))))))))
def laws_FnExactHearSpans.j2 : Nat → List Int → List Int → Int → Bool → Int → List (S59) → List Int → Option (Bool)
  | 0, _, _, _, _, _, _, _ => none
  | k + 1, x13, x14, x17, x174, x155000, x155001, x155002 => if x174 = true then (some false) else ((laws_heldSender.f k x155000 x155001 x155002 1).bind fun t216 => (if t216 < 0 then (some false) else ((laws_heldIntS.f k x13 t216).bind fun t217 => (if t217 < 0 then (some false) else ((laws_heldIntS.f k x14 t217).bind fun t218 => (if t218 < 0 then (some false) else (if t218 = x17 then (some true) else (some false))))))))
end
def laws_FnExactHearSpans.f (k : Nat) (a0_0 : Int) (l0_1 : List (S62)) (l0_2 : List Int) (l1 : List (S62)) : Option (Bool) := (laws_szSender.f a0_0 l0_1 l0_2 1048576).bind fun t102 => (if t102 < 0 then (some true) else ((laws_szSpanS.f l1 t102).bind fun t103 => (if t103 < 0 then (some true) else ((laws_toSender.f k a0_0 l0_1 l0_2).bind fun bt104 => ((laws_toSpanS.f k l1).bind fun t111 => ((spec_HearSpans.f k bt104.1 bt104.2.1 bt104.2.2 t111).bind fun bt114 => ((laws_toSender.f k a0_0 l0_1 l0_2).bind fun bt129 => ((laws_toSpanS.f k l1).bind fun t137 => ((impl_HearSpans.f k bt129.1 bt129.2.1 bt129.2.2 t137).bind fun bt140 => ((laws_eqSender.f k bt140.1 bt140.2.1 bt140.2.2.1 bt114.1 bt114.2.1 bt114.2.2.1).bind fun t155 => (if t155 = true then ((laws_eqIntS.f k bt140.2.2.2.1 bt114.2.2.2.1).bind fun t156 => (if t156 = true then ((laws_eqIntS.f k bt140.2.2.2.2.1 bt114.2.2.2.2.1).bind fun t157 => (if t157 = true then (laws_FnExactHearSpans.j0 k l1 bt114.2.2.2.1 bt114.2.2.2.2.1 bt114.2.2.2.2.2 t137 bt140.2.2.2.1 bt140.2.2.2.2.1 bt140.2.2.2.2.2 (bt140.2.2.2.2.2 != bt114.2.2.2.2.2) a0_0 l0_1 l0_2 bt114.1 bt114.2.1 bt114.2.2.1 bt129.1 bt129.2.1 bt129.2.2 bt140.1 bt140.2.1 bt140.2.2.1) else (laws_FnExactHearSpans.j0 k l1 bt114.2.2.2.1 bt114.2.2.2.2.1 bt114.2.2.2.2.2 t137 bt140.2.2.2.1 bt140.2.2.2.2.1 bt140.2.2.2.2.2 true a0_0 l0_1 l0_2 bt114.1 bt114.2.1 bt114.2.2.1 bt129.1 bt129.2.1 bt129.2.2 bt140.1 bt140.2.1 bt140.2.2.1))) else (laws_FnExactHearSpans.j0 k l1 bt114.2.2.2.1 bt114.2.2.2.2.1 bt114.2.2.2.2.2 t137 bt140.2.2.2.1 bt140.2.2.2.2.1 bt140.2.2.2.2.2 true a0_0 l0_1 l0_2 bt114.1 bt114.2.1 bt114.2.2.1 bt129.1 bt129.2.1 bt129.2.2 bt140.1 bt140.2.1 bt140.2.2.1))) else (laws_FnExactHearSpans.j0 k l1 bt114.2.2.2.1 bt114.2.2.2.2.1 bt114.2.2.2.2.2 t137 bt140.2.2.2.1 bt140.2.2.2.2.1 bt140.2.2.2.2.2 true a0_0 l0_1 l0_2 bt114.1 bt114.2.1 bt114.2.2.1 bt129.1 bt129.2.1 bt129.2.2 bt140.1 bt140.2.1 bt140.2.2.1))))))))))))
theorem laws_FnExactHearSpans.j0_true {k : Nat} {y0_ : List (S62)} {y1_ : List Int} {y2_ : List Int} {y3_ : Bool} {y4_ : List (S59)} {y5_ : List Int} {y6_ : List Int} {y7_ : Bool} {y9_ : Int} {y10_ : List (S62)} {y11_ : List Int} {y12_ : Int} {y13_ : List (S59)} {y14_ : List Int} {y15_ : Int} {y16_ : List (S59)} {y17_ : List Int} {y18_ : Int} {y19_ : List (S59)} {y20_ : List Int} {r : Bool} (hr : r = true) (h : laws_FnExactHearSpans.j0 k y0_ y1_ y2_ y3_ y4_ y5_ y6_ y7_ true y9_ y10_ y11_ y12_ y13_ y14_ y15_ y16_ y17_ y18_ y19_ y20_ = some r) : False := by
  cases k with
  | zero => rw [laws_FnExactHearSpans.j0] at h; cases h
  | succ k =>
    rw [laws_FnExactHearSpans.j0, if_pos rfl] at h
    have e := Option.some.inj h
    rw [hr] at e
    cases e
theorem laws_FnExactHearSpans.j1_true {k : Nat} {y0_ : List (S62)} {y1_ : List Int} {y2_ : List Int} {y3_ : Bool} {y4_ : List Int} {y5_ : List Int} {y7_ : Int} {y8_ : List (S62)} {y9_ : List Int} {y10_ : Int} {y11_ : List (S59)} {y12_ : List Int} {y13_ : Int} {y14_ : List (S59)} {y15_ : List Int} {r : Bool} (hr : r = true) (h : laws_FnExactHearSpans.j1 k y0_ y1_ y2_ y3_ y4_ y5_ true y7_ y8_ y9_ y10_ y11_ y12_ y13_ y14_ y15_ = some r) : False := by
  cases k with
  | zero => rw [laws_FnExactHearSpans.j1] at h; cases h
  | succ k =>
    rw [laws_FnExactHearSpans.j1, if_pos rfl] at h
    have e := Option.some.inj h
    rw [hr] at e
    cases e
theorem laws_FnExactHearSpans.j2_true {k : Nat} {y0_ : List Int} {y1_ : List Int} {y2_ : Int} {y4_ : Int} {y5_ : List (S59)} {y6_ : List Int} {r : Bool} (hr : r = true) (h : laws_FnExactHearSpans.j2 k y0_ y1_ y2_ true y4_ y5_ y6_ = some r) : False := by
  cases k with
  | zero => rw [laws_FnExactHearSpans.j2] at h; cases h
  | succ k =>
    rw [laws_FnExactHearSpans.j2, if_pos rfl] at h
    have e := Option.some.inj h
    rw [hr] at e
    cases e
set_option maxHeartbeats 8000000 in
set_option maxRecDepth 100000 in
theorem laws_FnExactHearSpans.calls (k : Nat) (a0_0 : Int) (A0_1 : Option Addr) (c0_1 : Nat) (l0_1 : List (S62)) (A0_2 : Option Addr) (c0_2 : Nat) (l0_2 : List Int) (A1 : Option Addr) (c1 : Nat) (l1 : List (S62)) (r : Bool) (w : World) (hr0_1 : Kd.C k62 w A0_1 l0_1.length l0_1) (hc0_1 : l0_1.length ≤ c0_1) (hr0_2 : Kd.C (Kd.int .i64) w A0_2 l0_2.length l0_2) (hc0_2 : l0_2.length ≤ c0_2) (hr1 : Kd.C k62 w A1 l1.length l1) (hc1 : l1.length ≤ c1) (h : laws_FnExactHearSpans.f k a0_0 l0_1 l0_2 l1 = some r) (hr_ : r = true := by rfl) :
  Calls Try.prog 5 #[.agg #[.int .i64 a0_0, .slice A0_1 l0_1.length c0_1, .slice A0_2 l0_2.length c0_2], .slice A1 l1.length c1] w fun e w' => e = .returned (.bool r) ∧ Below w.heap.size w w' := by
 have hu25 := Try.underlying25
 have hu31 := Try.underlying31
 have HR0_1 := sA hr0_1
 have HC0_1 := sA hc0_1
 clear hr0_1 hc0_1
 have HR0_2 := sA hr0_2
 have HC0_2 := sA hc0_2
 clear hr0_2 hc0_2
 have HR1 := sA hr1
 have HC1 := sA hc1
 clear hr1 hc1
 have HB := sA (Below.refl w.heap.size w)
 have H : ((laws_szSender.f a0_0 l0_1 l0_2 1048576).bind fun t102 => (if t102 < 0 then (some true) else ((laws_szSpanS.f l1 t102).bind fun t103 => (if t103 < 0 then (some true) else ((laws_toSender.f k a0_0 l0_1 l0_2).bind fun bt104 => ((laws_toSpanS.f k l1).bind fun t111 => ((spec_HearSpans.f k bt104.1 bt104.2.1 bt104.2.2 t111).bind fun bt114 => ((laws_toSender.f k a0_0 l0_1 l0_2).bind fun bt129 => ((laws_toSpanS.f k l1).bind fun t137 => ((impl_HearSpans.f k bt129.1 bt129.2.1 bt129.2.2 t137).bind fun bt140 => ((laws_eqSender.f k bt140.1 bt140.2.1 bt140.2.2.1 bt114.1 bt114.2.1 bt114.2.2.1).bind fun t155 => (if t155 = true then ((laws_eqIntS.f k bt140.2.2.2.1 bt114.2.2.2.1).bind fun t156 => (if t156 = true then ((laws_eqIntS.f k bt140.2.2.2.2.1 bt114.2.2.2.2.1).bind fun t157 => (if t157 = true then (laws_FnExactHearSpans.j0 k l1 bt114.2.2.2.1 bt114.2.2.2.2.1 bt114.2.2.2.2.2 t137 bt140.2.2.2.1 bt140.2.2.2.2.1 bt140.2.2.2.2.2 (bt140.2.2.2.2.2 != bt114.2.2.2.2.2) a0_0 l0_1 l0_2 bt114.1 bt114.2.1 bt114.2.2.1 bt129.1 bt129.2.1 bt129.2.2 bt140.1 bt140.2.1 bt140.2.2.1) else (laws_FnExactHearSpans.j0 k l1 bt114.2.2.2.1 bt114.2.2.2.2.1 bt114.2.2.2.2.2 t137 bt140.2.2.2.1 bt140.2.2.2.2.1 bt140.2.2.2.2.2 true a0_0 l0_1 l0_2 bt114.1 bt114.2.1 bt114.2.2.1 bt129.1 bt129.2.1 bt129.2.2 bt140.1 bt140.2.1 bt140.2.2.1))) else (laws_FnExactHearSpans.j0 k l1 bt114.2.2.2.1 bt114.2.2.2.2.1 bt114.2.2.2.2.2 t137 bt140.2.2.2.1 bt140.2.2.2.2.1 bt140.2.2.2.2.2 true a0_0 l0_1 l0_2 bt114.1 bt114.2.1 bt114.2.2.1 bt129.1 bt129.2.1 bt129.2.2 bt140.1 bt140.2.1 bt140.2.2.1))) else (laws_FnExactHearSpans.j0 k l1 bt114.2.2.2.1 bt114.2.2.2.2.1 bt114.2.2.2.2.2 t137 bt140.2.2.2.1 bt140.2.2.2.2.1 bt140.2.2.2.2.2 true a0_0 l0_1 l0_2 bt114.1 bt114.2.1 bt114.2.2.1 bt129.1 bt129.2.1 bt129.2.2 bt140.1 bt140.2.1 bt140.2.2.1))))))))))))) = some r := h
 clear h
 obtain ⟨t102, A3, H⟩ := sN H
 by_cases c4 : t102 < 0
 ·rw [if_pos c4] at H
  have c4b0 : decide (t102 < 0) = true := decide_eq_true c4
  clear c4
  obtain rfl := Option.some.inj H
  go_enter Try.func5, Try.ntmps5
  go_wp2_with (first | ((with_reducible refine gate_dst (N := 2) rfl ?_); refine box_event ?hg (N := 2) ?hd (cs := #[.int .i64 a0_0, .slice A0_1 l0_1.length c0_1, .slice A0_2 l0_2.length c0_2]) (t := 25) ?hr ?_; (case hd => rfl); (case hg => rfl); (case hr => first | (go_simp; done) | (go_simp; rfl)); intro gb101 hg w5 hbox hb; have BK101 := sA (hbox); have GW101 := sA ((by rw [hg]; exact (below_size sH) : w.heap.size ≤ gb101)); have GE101 := sA ((by rw [hg]; exact (below_size sH) : w.heap.size ≤ gb101)); replace HB := sA (below_step sH hb); clear hb hbox hg; obtain ⟨_, _, _, _, _, _⟩ := sD3 BK101) | ((with_reducible refine gate_callee (f := 8) rfl ?_); refine goesL_ (some 25) rfl rfl Try.func8 (by kernel_rfl) rfl #[.agg #[.int .i64 a0_0, .slice A0_1 l0_1.length c0_1, .slice A0_2 l0_2.length c0_2], .int .i64 1048576] rfl sG ?_; (with_reducible refine (laws_szSender.calls a0_0 _ _ l0_1 _ _ l0_2 1048576 t102 _ ?side1 ?side2 ?side3 ?side4 A3.out).mono ?_); (case side1 => exact sK (Kd.C_below HR0_1.out HB.out)); (case side2 => exact HC0_1.out); (case side3 => exact sK (Kd.C_below HR0_2.out HB.out)); (case side4 => exact HC0_2.out); rintro e w7 ⟨rfl, hb⟩; refine ⟨_, rfl, ?_⟩; replace BK101 := sJ BK101 hb; replace HB := sA (below_step sH hb); (try clear hb); (try clear hb2); (try clear hk); (try clear hi)))
  go_ret
  exact ⟨by first | rfl | (simp [errW_none, errW_some] <;> rfl) | (simp [*, errW_none, errW_some] <;> rfl), by repeat (first | (with_reducible first | exact HB.out | apply sLA | apply sLN | apply sLD | refine sLS ?_ GE101.out) | exact HB.out)⟩
 ·rw [if_neg c4] at H
  have c4b0 : decide (t102 < 0) = false := decide_eq_false c4
  clear c4
  obtain ⟨t103, A8, H⟩ := sN H
  by_cases c9 : t103 < 0
  ·rw [if_pos c9] at H
   have c9b0 : decide (t103 < 0) = true := decide_eq_true c9
   clear c9
   obtain rfl := Option.some.inj H
   go_enter Try.func5, Try.ntmps5
   go_wp2_with (first | ((with_reducible refine gate_dst (N := 2) rfl ?_); refine box_event ?hg (N := 2) ?hd (cs := #[.int .i64 a0_0, .slice A0_1 l0_1.length c0_1, .slice A0_2 l0_2.length c0_2]) (t := 25) ?hr ?_; (case hd => rfl); (case hg => rfl); (case hr => first | (go_simp; done) | (go_simp; rfl)); intro gb101 hg w10 hbox hb; have BK101 := sA (hbox); have GW101 := sA ((by rw [hg]; exact (below_size sH) : w.heap.size ≤ gb101)); have GE101 := sA ((by rw [hg]; exact (below_size sH) : w.heap.size ≤ gb101)); replace HB := sA (below_step sH hb); clear hb hbox hg; obtain ⟨_, _, _, _, _, _⟩ := sD3 BK101) | ((with_reducible refine gate_callee (f := 8) rfl ?_); refine goesL_ (some 25) rfl rfl Try.func8 (by kernel_rfl) rfl #[.agg #[.int .i64 a0_0, .slice A0_1 l0_1.length c0_1, .slice A0_2 l0_2.length c0_2], .int .i64 1048576] rfl sG ?_; (with_reducible refine (laws_szSender.calls a0_0 _ _ l0_1 _ _ l0_2 1048576 t102 _ ?side1 ?side2 ?side3 ?side4 A3.out).mono ?_); (case side1 => exact sK (Kd.C_below HR0_1.out HB.out)); (case side2 => exact HC0_1.out); (case side3 => exact sK (Kd.C_below HR0_2.out HB.out)); (case side4 => exact HC0_2.out); rintro e w12 ⟨rfl, hb⟩; refine ⟨_, rfl, ?_⟩; replace BK101 := sJ BK101 hb; replace HB := sA (below_step sH hb); (try clear hb); (try clear hb2); (try clear hk); (try clear hi)) | ((with_reducible refine gate_callee (f := 20) rfl ?_); refine goesL_ (some 30) rfl rfl Try.func20 (by kernel_rfl) rfl #[.slice A1 l1.length c1, .int .i64 t102] rfl sG ?_; (with_reducible refine (laws_szSpanS.calls _ _ l1 t102 t103 _ ?side1 ?side2 A8.out).mono ?_); (case side1 => exact sK (Kd.C_below HR1.out HB.out)); (case side2 => exact HC1.out); rintro e w' ⟨rfl, ⟨nd, rfl⟩⟩; refine ⟨_, rfl, ?_⟩))
   go_ret
   exact ⟨by first | rfl | (simp [errW_none, errW_some] <;> rfl) | (simp [*, errW_none, errW_some] <;> rfl), by repeat (first | (with_reducible first | exact HB.out | apply sLA | apply sLN | apply sLD | refine sLS ?_ GE101.out) | exact HB.out)⟩
  ·rw [if_neg c9] at H
   have c9b0 : decide (t103 < 0) = false := decide_eq_false c9
   clear c9
   obtain ⟨⟨t104, t105, t108⟩, A13, H⟩ := sN H
   (try dsimp only at H)
   obtain ⟨t111, A14, H⟩ := sN H
   obtain ⟨⟨t114, t115, t118, t121, t124, t127⟩, A15, H⟩ := sN H
   (try dsimp only at H)
   obtain ⟨⟨t129, t130, t133⟩, A16, H⟩ := sN H
   (try dsimp only at H)
   obtain ⟨t137, A17, H⟩ := sN H
   obtain ⟨⟨t140, t141, t144, t147, t150, t153⟩, A18, H⟩ := sN H
   (try dsimp only at H)
   have HC19 := sA H
   clear H
   go_enter Try.func5, Try.ntmps5
   go_upto_region 12 with (first | ((with_reducible refine gate_dst (N := 2) rfl ?_); refine box_event ?hg (N := 2) ?hd (cs := #[.int .i64 a0_0, .slice A0_1 l0_1.length c0_1, .slice A0_2 l0_2.length c0_2]) (t := 25) ?hr ?_; (case hd => rfl); (case hg => rfl); (case hr => first | (go_simp; done) | (go_simp; rfl)); intro gb101 hg w20 hbox hb; have BK101 := sA (hbox); have GW101 := sA ((by rw [hg]; exact (below_size sH) : w.heap.size ≤ gb101)); have GE101 := sA ((by rw [hg]; exact (below_size sH) : w.heap.size ≤ gb101)); replace HB := sA (below_step sH hb); clear hb hbox hg; obtain ⟨_, _, _, _, _, _⟩ := sD3 BK101) | ((with_reducible refine gate_callee (f := 8) rfl ?_); refine goesL_ (some 25) rfl rfl Try.func8 (by kernel_rfl) rfl #[.agg #[.int .i64 a0_0, .slice A0_1 l0_1.length c0_1, .slice A0_2 l0_2.length c0_2], .int .i64 1048576] rfl sG ?_; (with_reducible refine (laws_szSender.calls a0_0 _ _ l0_1 _ _ l0_2 1048576 t102 _ ?side1 ?side2 ?side3 ?side4 A3.out).mono ?_); (case side1 => exact sK (Kd.C_below HR0_1.out HB.out)); (case side2 => exact HC0_1.out); (case side3 => exact sK (Kd.C_below HR0_2.out HB.out)); (case side4 => exact HC0_2.out); rintro e w22 ⟨rfl, hb⟩; refine ⟨_, rfl, ?_⟩; replace BK101 := sJ BK101 hb; replace HB := sA (below_step sH hb); (try clear hb); (try clear hb2); (try clear hk); (try clear hi)) | ((with_reducible refine gate_callee (f := 20) rfl ?_); refine goesL_ (some 30) rfl rfl Try.func20 (by kernel_rfl) rfl #[.slice A1 l1.length c1, .int .i64 t102] rfl sG ?_; (with_reducible refine (laws_szSpanS.calls _ _ l1 t102 t103 _ ?side1 ?side2 A8.out).mono ?_); (case side1 => exact sK (Kd.C_below HR1.out HB.out)); (case side2 => exact HC1.out); rintro e w' ⟨rfl, ⟨nd, rfl⟩⟩; refine ⟨_, rfl, ?_⟩; (try (rw [drewN_self w22]; generalize hq_ : World.drewN w22 _ = w22; have n0_ : Aside0 (w22.heap[gb101]? = some (.cells #[.int .i64 a0_0, .slice A0_1 l0_1.length c0_1, .slice A0_2 l0_2.length c0_2] 25 (0, 0))) := ⟨by rw [← hq_]; exact (sB BK101.out)⟩; have n1_ : Aside0 (Below w.heap.size w w22) := ⟨by rw [← hq_]; exact sH⟩; clear BK101 HB hq_; have BK101 := n0_; have HB := n1_; clear n0_ n1_)); obtain ⟨_, _, _, _, _, _⟩ := sD3 BK101) | ((with_reducible refine gate_callee (f := 10) rfl ?_); refine goesL_ (some 35) rfl rfl Try.func10 (by kernel_rfl) rfl #[.agg #[.int .i64 a0_0, .slice A0_1 l0_1.length c0_1, .slice A0_2 l0_2.length c0_2]] rfl sG ?_; (with_reducible refine (laws_toSender.calls k a0_0 _ _ l0_1 _ _ l0_2 t104 t105 t108 _ ?side1 ?side2 ?side3 ?side4 A13.out).mono ?_); (case side1 => exact sK (Kd.C_below HR0_1.out HB.out)); (case side2 => exact HC0_1.out); (case side3 => exact sK (Kd.C_below HR0_2.out HB.out)); (case side4 => exact HC0_2.out); rintro e w24 ⟨v106, v109, rfl, ho0, ho1, hb⟩; refine ⟨_, rfl, ?_⟩; have HO107 := sA (Kd.R_lower ho0 (below_size sH)); have HO110 := sA (Kd.R_lower ho1 (below_size sH)); replace BK101 := sJ BK101 hb; replace HB := sA (below_step sH hb); (try clear hb); (try clear hb2); (try clear hk); (try clear hi); (try clear ho0); (try clear ho1)) | ((with_reducible refine gate_callee (f := 22) rfl ?_); refine goesL_ (some 37) rfl rfl Try.func22 (by kernel_rfl) rfl #[.slice A1 l1.length c1] rfl sG ?_; (with_reducible refine (laws_toSpanS.calls k _ _ l1 t111 _ ?side1 ?side2 A14.out).mono ?_); (case side1 => exact sK (Kd.C_below HR1.out HB.out)); (case side2 => exact HC1.out); rintro e w25 ⟨v112, rfl, ho0, hb⟩; refine ⟨_, rfl, ?_⟩; replace HO110 := sS HO110 hb; have HO113 := sA (Kd.R_lower (Kd.R_new' ho0 (Kd.R_lt (sR HO107.out))) (below_size sH)); replace HO107 := sA (Kd.R_elder' (sR HO107.out) (Kd.R_base ho0) hb); replace BK101 := sJ BK101 hb; replace HB := sA (below_step sH hb); (try clear hb); (try clear hb2); (try clear hk); (try clear hi); (try clear ho0); obtain ⟨Ao26, co26, eo26⟩ := Kd.R_slice HO107.out; subst eo26; obtain ⟨Ao27, co27, eo27⟩ := Kd.R_slice HO110.out; subst eo27; obtain ⟨Ao28, co28, eo28⟩ := Kd.R_slice HO113.out; subst eo28) | ((with_reducible refine gate_callee (f := 21) rfl ?_); refine goesL_ (some 38) rfl rfl Try.func21 (by kernel_rfl) rfl #[.agg #[.int .i64 t104, .slice Ao26 t105.length co26, .slice Ao27 t108.length co27], .slice Ao28 t111.length co28] rfl sG ?_; (with_reducible refine (spec_HearSpans.calls k t104 _ _ t105 _ _ t108 _ _ t111 t114 t115 t118 t121 t124 t127 _ ?side1 ?side2 ?side3 ?side4 ?side5 ?side6 A15.out).mono ?_); (case side1 => exact sK (Kd.R_reads' HO107.out).2.2); (case side2 => exact (Kd.R_reads' HO107.out).2.1); (case side3 => exact sK (Kd.R_reads' HO110.out).2.2); (case side4 => exact (Kd.R_reads' HO110.out).2.1); (case side5 => exact sK (Kd.R_reads' HO113.out).2.2); (case side6 => exact (Kd.R_reads' HO113.out).2.1); rintro e w29 ⟨v116, v119, v122, v125, rfl, ho0, ho1, ho2, ho3, hb⟩; refine ⟨_, rfl, ?_⟩; have HO117 := sA (Kd.R_lower (Kd.R_new' (Kd.R_new' ho0 (Kd.R_lt (sR HO107.out))) (Kd.R_lt (sR HO113.out))) (below_size sH)); replace HO107 := sA (Kd.R_elder' (sR HO107.out) (Kd.R_base ho0) hb); replace HO113 := sA (Kd.R_elder' (sR HO113.out) (Kd.R_base ho0) hb); have HO120 := sA (Kd.R_lower (Kd.R_new' ho1 (Kd.R_lt (sR HO110.out))) (below_size sH)); have HO123 := sA (Kd.R_lower (Kd.R_new' ho2 (Kd.R_lt (sR HO110.out))) (below_size sH)); have HO126 := sA (Kd.R_lower (Kd.R_new' ho3 (Kd.R_lt (sR HO110.out))) (below_size sH)); replace HO110 := sA (Kd.R_mono (Kd.R_told (Kd.R_told (Kd.R_told (Kd.R_old (sR HO110.out) hb) (Kd.R_base ho1)) (Kd.R_base ho2)) (Kd.R_base ho3)) (fun _ h_ => h_.1)); replace BK101 := sJ BK101 hb; replace HB := sA (below_step sH hb); (try clear hb); (try clear hb2); (try clear hk); (try clear hi); (try clear ho0); (try clear ho1); (try clear ho2); (try clear ho3)) | ((with_reducible refine gate_dst (N := 6) rfl ?_); refine box_event ?hg (N := 6) ?hd (cs := #[.int .i64 0, .slice none 0 0, .slice none 0 0]) (t := 31) ?hr ?_; (case hd => rfl); (case hg => rfl); (case hr => first | (go_simp; done) | (go_simp; rfl)); intro gb128 hg w30 hbox hb; replace HO107 := sS HO107 hb; replace HO110 := sS HO110 hb; replace HO113 := sS HO113 hb; replace HO117 := sS HO117 hb; replace HO120 := sS HO120 hb; replace HO123 := sS HO123 hb; replace HO126 := sS HO126 hb; have BK128 := sA (hbox); have GW128 := sA ((by rw [hg]; exact (below_size sH) : w.heap.size ≤ gb128)); have GE128 := sA ((by rw [hg]; exact (below_size sH) : w.heap.size ≤ gb128)); replace HB := sA (below_step sH hb); have NB101_128 := sA ((by rw [hg]; exact Nat.ne_of_lt (blk_lt (sB BK101.out)) : gb101 ≠ gb128)); have NB128_101 := sA ((by rw [hg]; exact Nat.ne_of_gt (blk_lt (sB BK101.out)) : gb128 ≠ gb101)); replace BK101 := sJ BK101 hb; clear hb hbox hg; have := NB128_101.out; have := NB101_128.out; obtain ⟨_, _, _, _, _, _⟩ := sD3 BK128; obtain ⟨Ao33, co33, eo33⟩ := Kd.R_slice HO117.out; subst eo33; obtain ⟨Ao34, co34, eo34⟩ := Kd.R_slice HO120.out; subst eo34; obtain ⟨_, _, _, _, _, _⟩ := sD3 BK101) | ((with_reducible refine gate_callee (f := 10) rfl ?_); refine goesL_ (some 44) rfl rfl Try.func10 (by kernel_rfl) rfl #[.agg #[.int .i64 a0_0, .slice A0_1 l0_1.length c0_1, .slice A0_2 l0_2.length c0_2]] rfl sG ?_; (with_reducible refine (laws_toSender.calls k a0_0 _ _ l0_1 _ _ l0_2 t129 t130 t133 _ ?side1 ?side2 ?side3 ?side4 A16.out).mono ?_); (case side1 => exact Kd.C_below HR0_1.out sH); (case side2 => exact HC0_1.out); (case side3 => exact Kd.C_below HR0_2.out sH); (case side4 => exact HC0_2.out); rintro e w36 ⟨v131, v134, rfl, ho0, ho1, hb⟩; refine ⟨_, rfl, ?_⟩; have HO132 := sA (Kd.R_lower (Kd.R_new' (Kd.R_new' (Kd.R_new' ho0 (Kd.R_lt (sE HO107 BK128 (by decide)))) (Kd.R_lt (sE HO113 BK128 (by decide)))) (Kd.R_lt (sE HO117 BK128 (by decide)))) (below_size sH)); replace HO107 := sA (Kd.R_elder' (sE HO107 BK128 (by decide)) (Kd.R_base ho0) hb); replace HO113 := sA (Kd.R_elder' (sE HO113 BK128 (by decide)) (Kd.R_base ho0) hb); replace HO117 := sA (Kd.R_elder' (sE HO117 BK128 (by decide)) (Kd.R_base ho0) hb); have HO135 := sA (Kd.R_lower (Kd.R_new' (Kd.R_new' (Kd.R_new' (Kd.R_new' ho1 (Kd.R_lt (sE HO110 BK128 (by decide)))) (Kd.R_lt (sE HO120 BK128 (by decide)))) (Kd.R_lt (sE HO123 BK128 (by decide)))) (Kd.R_lt (sE HO126 BK128 (by decide)))) (below_size sH)); replace HO110 := sA (Kd.R_elder' (sE HO110 BK128 (by decide)) (Kd.R_base ho1) hb); replace HO120 := sA (Kd.R_elder' (sE HO120 BK128 (by decide)) (Kd.R_base ho1) hb); replace HO123 := sA (Kd.R_elder' (sE HO123 BK128 (by decide)) (Kd.R_base ho1) hb); replace HO126 := sA (Kd.R_elder' (sE HO126 BK128 (by decide)) (Kd.R_base ho1) hb); replace BK101 := sA (blk_below (g := gb101) (o := .cells #[.int .i64 a0_0, .slice A0_1 l0_1.length c0_1, .slice A0_2 l0_2.length c0_2] 25 (0, 0)) (sF BK101 NB101_128) hb); replace BK128 := sA (blk_below (g := gb128) (o := .cells #[.int .i64 t114, .slice Ao33 t115.length co33, .slice Ao34 t118.length co34] 31 (0, 0)) (by (with_reducible repeat first | apply blk_drewN | apply blk_drew | apply blk_alloc); refine blk_put (cs := #[.int .i64 t114, .slice Ao33 t115.length co33, .slice none 0 0]) ?_ 2 _ rfl; (with_reducible repeat first | apply blk_drewN | apply blk_drew | apply blk_alloc); refine blk_put (cs := #[.int .i64 t114, .slice none 0 0, .slice none 0 0]) ?_ 1 _ rfl; (with_reducible repeat first | apply blk_drewN | apply blk_drew | apply blk_alloc); refine blk_put (cs := #[.int .i64 0, .slice none 0 0, .slice none 0 0]) ?_ 0 _ rfl; (with_reducible repeat first | apply blk_drewN | apply blk_drew | apply blk_alloc); exact BK128.out) hb); replace HB := sA (below_step sH hb); (try clear hb); (try clear hb2); (try clear hk); (try clear hi); (try clear ho0); (try clear ho1)) | ((with_reducible refine gate_dst (N := 10) rfl ?_); refine box_event ?hg (N := 10) ?hd (cs := #[.int .i64 0, .slice none 0 0, .slice none 0 0]) (t := 31) ?hr ?_; (case hd => rfl); (case hg => rfl); (case hr => first | (go_simp; done) | (go_simp; rfl)); intro gb136 hg w37 hbox hb; replace HO107 := sS HO107 hb; replace HO110 := sS HO110 hb; replace HO113 := sS HO113 hb; replace HO117 := sS HO117 hb; replace HO120 := sS HO120 hb; replace HO123 := sS HO123 hb; replace HO126 := sS HO126 hb; replace HO132 := sS HO132 hb; replace HO135 := sS HO135 hb; have BK136 := sA (hbox); have GW136 := sA ((by rw [hg]; exact (below_size sH) : w.heap.size ≤ gb136)); have GE136 := sA ((by rw [hg]; exact (below_size sH) : w.heap.size ≤ gb136)); replace HB := sA (below_step sH hb); have NB101_136 := sA ((by rw [hg]; exact Nat.ne_of_lt (blk_lt (sB BK101.out)) : gb101 ≠ gb136)); have NB136_101 := sA ((by rw [hg]; exact Nat.ne_of_gt (blk_lt (sB BK101.out)) : gb136 ≠ gb101)); replace BK101 := sJ BK101 hb; have NB128_136 := sA ((by rw [hg]; exact Nat.ne_of_lt (blk_lt (sB BK128.out)) : gb128 ≠ gb136)); have NB136_128 := sA ((by rw [hg]; exact Nat.ne_of_gt (blk_lt (sB BK128.out)) : gb136 ≠ gb128)); replace BK128 := sJ BK128 hb; clear hb hbox hg; have := NB136_101.out; have := NB101_136.out; have := NB136_128.out; have := NB128_136.out; obtain ⟨_, _, _, _, _, _⟩ := sD3 BK136; obtain ⟨Ao41, co41, eo41⟩ := Kd.R_slice HO132.out; subst eo41; obtain ⟨Ao42, co42, eo42⟩ := Kd.R_slice HO135.out; subst eo42) | ((with_reducible refine gate_callee (f := 22) rfl ?_); refine goesL_ (some 46) rfl rfl Try.func22 (by kernel_rfl) rfl #[.slice A1 l1.length c1] rfl sG ?_; (with_reducible refine (laws_toSpanS.calls k _ _ l1 t137 _ ?side1 ?side2 A17.out).mono ?_); (case side1 => exact Kd.C_below HR1.out sH); (case side2 => exact HC1.out); rintro e w43 ⟨v138, rfl, ho0, hb⟩; refine ⟨_, rfl, ?_⟩; replace HO110 := sA (Kd.R_below (sE HO110 BK136 (by decide)) hb); replace HO120 := sA (Kd.R_below (sE HO120 BK136 (by decide)) hb); replace HO123 := sA (Kd.R_below (sE HO123 BK136 (by decide)) hb); replace HO126 := sA (Kd.R_below (sE HO126 BK136 (by decide)) hb); replace HO135 := sA (Kd.R_below (sE HO135 BK136 (by decide)) hb); have HO139 := sA (Kd.R_lower (Kd.R_new' (Kd.R_new' (Kd.R_new' (Kd.R_new' ho0 (Kd.R_lt (sE HO107 BK136 (by decide)))) (Kd.R_lt (sE HO113 BK136 (by decide)))) (Kd.R_lt (sE HO117 BK136 (by decide)))) (Kd.R_lt (sE HO132 BK136 (by decide)))) (below_size sH)); replace HO107 := sA (Kd.R_elder' (sE HO107 BK136 (by decide)) (Kd.R_base ho0) hb); replace HO113 := sA (Kd.R_elder' (sE HO113 BK136 (by decide)) (Kd.R_base ho0) hb); replace HO117 := sA (Kd.R_elder' (sE HO117 BK136 (by decide)) (Kd.R_base ho0) hb); replace HO132 := sA (Kd.R_elder' (sE HO132 BK136 (by decide)) (Kd.R_base ho0) hb); replace BK101 := sA (blk_below (g := gb101) (o := .cells #[.int .i64 a0_0, .slice A0_1 l0_1.length c0_1, .slice A0_2 l0_2.length c0_2] 25 (0, 0)) (sF BK101 NB101_136) hb); replace BK128 := sA (blk_below (g := gb128) (o := .cells #[.int .i64 t114, .slice Ao33 t115.length co33, .slice Ao34 t118.length co34] 31 (0, 0)) (sF BK128 NB128_136) hb); replace BK136 := sA (blk_below (g := gb136) (o := .cells #[.int .i64 t129, .slice Ao41 t130.length co41, .slice Ao42 t133.length co42] 31 (0, 0)) (by (with_reducible repeat first | apply blk_drewN | apply blk_drew | apply blk_alloc); refine blk_put (cs := #[.int .i64 t129, .slice Ao41 t130.length co41, .slice none 0 0]) ?_ 2 _ rfl; (with_reducible repeat first | apply blk_drewN | apply blk_drew | apply blk_alloc); refine blk_put (cs := #[.int .i64 t129, .slice none 0 0, .slice none 0 0]) ?_ 1 _ rfl; (with_reducible repeat first | apply blk_drewN | apply blk_drew | apply blk_alloc); refine blk_put (cs := #[.int .i64 0, .slice none 0 0, .slice none 0 0]) ?_ 0 _ rfl; (with_reducible repeat first | apply blk_drewN | apply blk_drew | apply blk_alloc); exact BK136.out) hb); replace HB := sA (below_step sH hb); (try clear hb); (try clear hb2); (try clear hk); (try clear hi); (try clear ho0); obtain ⟨_, _, _, _, _, _⟩ := sD3 BK136; obtain ⟨Ao45, co45, eo45⟩ := Kd.R_slice HO139.out; subst eo45) | ((with_reducible refine gate_callee (f := 23) rfl ?_); refine goesL_ (some 50) rfl rfl Try.func23 (by kernel_rfl) rfl #[.agg #[.int .i64 t129, .slice Ao41 t130.length co41, .slice Ao42 t133.length co42], .slice Ao45 t137.length co45] rfl sG ?_; (with_reducible refine (impl_HearSpans.calls k t129 _ _ t130 _ _ t133 _ _ t137 t140 t141 t144 t147 t150 t153 _ ?side1 ?side2 ?side3 ?side4 ?side5 ?side6 A18.out).mono ?_); (case side1 => exact sK (Kd.R_reads' HO132.out).2.2); (case side2 => exact (Kd.R_reads' HO132.out).2.1); (case side3 => exact sK (Kd.R_reads' HO135.out).2.2); (case side4 => exact (Kd.R_reads' HO135.out).2.1); (case side5 => exact sK (Kd.R_reads' HO139.out).2.2); (case side6 => exact (Kd.R_reads' HO139.out).2.1); rintro e w46 ⟨v142, v145, v148, v151, rfl, ho0, ho1, ho2, ho3, hb⟩; refine ⟨_, rfl, ?_⟩; have HO143 := sA (Kd.R_lower (Kd.R_new' (Kd.R_new' (Kd.R_new' (Kd.R_new' (Kd.R_new' ho0 (Kd.R_lt (sR HO107.out))) (Kd.R_lt (sR HO113.out))) (Kd.R_lt (sR HO117.out))) (Kd.R_lt (sR HO132.out))) (Kd.R_lt (sR HO139.out))) (below_size sH)); replace HO107 := sA (Kd.R_elder' (sR HO107.out) (Kd.R_base ho0) hb); replace HO113 := sA (Kd.R_elder' (sR HO113.out) (Kd.R_base ho0) hb); replace HO117 := sA (Kd.R_elder' (sR HO117.out) (Kd.R_base ho0) hb); replace HO132 := sA (Kd.R_elder' (sR HO132.out) (Kd.R_base ho0) hb); replace HO139 := sA (Kd.R_elder' (sR HO139.out) (Kd.R_base ho0) hb); have HO146 := sA (Kd.R_lower (Kd.R_new' (Kd.R_new' (Kd.R_new' (Kd.R_new' (Kd.R_new' ho1 (Kd.R_lt (sR HO110.out))) (Kd.R_lt (sR HO120.out))) (Kd.R_lt (sR HO123.out))) (Kd.R_lt (sR HO126.out))) (Kd.R_lt (sR HO135.out))) (below_size sH)); have HO149 := sA (Kd.R_lower (Kd.R_new' (Kd.R_new' (Kd.R_new' (Kd.R_new' (Kd.R_new' ho2 (Kd.R_lt (sR HO110.out))) (Kd.R_lt (sR HO120.out))) (Kd.R_lt (sR HO123.out))) (Kd.R_lt (sR HO126.out))) (Kd.R_lt (sR HO135.out))) (below_size sH)); have HO152 := sA (Kd.R_lower (Kd.R_new' (Kd.R_new' (Kd.R_new' (Kd.R_new' (Kd.R_new' ho3 (Kd.R_lt (sR HO110.out))) (Kd.R_lt (sR HO120.out))) (Kd.R_lt (sR HO123.out))) (Kd.R_lt (sR HO126.out))) (Kd.R_lt (sR HO135.out))) (below_size sH)); replace HO110 := sA (Kd.R_mono (Kd.R_told (Kd.R_told (Kd.R_told (Kd.R_old (sR HO110.out) hb) (Kd.R_base ho1)) (Kd.R_base ho2)) (Kd.R_base ho3)) (fun _ h_ => h_.1)); replace HO120 := sA (Kd.R_mono (Kd.R_told (Kd.R_told (Kd.R_told (Kd.R_old (sR HO120.out) hb) (Kd.R_base ho1)) (Kd.R_base ho2)) (Kd.R_base ho3)) (fun _ h_ => h_.1)); replace HO123 := sA (Kd.R_mono (Kd.R_told (Kd.R_told (Kd.R_told (Kd.R_old (sR HO123.out) hb) (Kd.R_base ho1)) (Kd.R_base ho2)) (Kd.R_base ho3)) (fun _ h_ => h_.1)); replace HO126 := sA (Kd.R_mono (Kd.R_told (Kd.R_told (Kd.R_told (Kd.R_old (sR HO126.out) hb) (Kd.R_base ho1)) (Kd.R_base ho2)) (Kd.R_base ho3)) (fun _ h_ => h_.1)); replace HO135 := sA (Kd.R_mono (Kd.R_told (Kd.R_told (Kd.R_told (Kd.R_old (sR HO135.out) hb) (Kd.R_base ho1)) (Kd.R_base ho2)) (Kd.R_base ho3)) (fun _ h_ => h_.1)); replace BK101 := sJ BK101 hb; replace BK128 := sJ BK128 hb; replace BK136 := sJ BK136 hb; replace HB := sA (below_step sH hb); (try clear hb); (try clear hb2); (try clear hk); (try clear hi); (try clear ho0); (try clear ho1); (try clear ho2); (try clear ho3)) | ((with_reducible refine gate_dst (N := 12) rfl ?_); refine box_event ?hg (N := 12) ?hd (cs := #[.int .i64 0, .slice none 0 0, .slice none 0 0]) (t := 31) ?hr ?_; (case hd => rfl); (case hg => rfl); (case hr => first | (go_simp; done) | (go_simp; rfl)); intro gb154 hg w47 hbox hb; replace HO107 := sS HO107 hb; replace HO110 := sS HO110 hb; replace HO113 := sS HO113 hb; replace HO117 := sS HO117 hb; replace HO120 := sS HO120 hb; replace HO123 := sS HO123 hb; replace HO126 := sS HO126 hb; replace HO132 := sS HO132 hb; replace HO135 := sS HO135 hb; replace HO139 := sS HO139 hb; replace HO143 := sS HO143 hb; replace HO146 := sS HO146 hb; replace HO149 := sS HO149 hb; replace HO152 := sS HO152 hb; have BK154 := sA (hbox); have GW154 := sA ((by rw [hg]; exact (below_size sH) : w.heap.size ≤ gb154)); have GE154 := sA ((by rw [hg]; exact (below_size sH) : w.heap.size ≤ gb154)); replace HB := sA (below_step sH hb); have NB101_154 := sA ((by rw [hg]; exact Nat.ne_of_lt (blk_lt (sB BK101.out)) : gb101 ≠ gb154)); have NB154_101 := sA ((by rw [hg]; exact Nat.ne_of_gt (blk_lt (sB BK101.out)) : gb154 ≠ gb101)); replace BK101 := sJ BK101 hb; have NB128_154 := sA ((by rw [hg]; exact Nat.ne_of_lt (blk_lt (sB BK128.out)) : gb128 ≠ gb154)); have NB154_128 := sA ((by rw [hg]; exact Nat.ne_of_gt (blk_lt (sB BK128.out)) : gb154 ≠ gb128)); replace BK128 := sJ BK128 hb; have NB136_154 := sA ((by rw [hg]; exact Nat.ne_of_lt (blk_lt (sB BK136.out)) : gb136 ≠ gb154)); have NB154_136 := sA ((by rw [hg]; exact Nat.ne_of_gt (blk_lt (sB BK136.out)) : gb154 ≠ gb136)); replace BK136 := sJ BK136 hb; clear hb hbox hg; have := NB154_101.out; have := NB101_154.out; have := NB154_128.out; have := NB128_154.out; have := NB154_136.out; have := NB136_154.out; obtain ⟨_, _, _, _, _, _⟩ := sD3 BK154; obtain ⟨Ao52, co52, eo52⟩ := Kd.R_slice HO143.out; subst eo52; obtain ⟨Ao53, co53, eo53⟩ := Kd.R_slice HO146.out; subst eo53))
   (try simp only [Act.put, sI, sZ, sV])
   go_cut [75] (fun v75 wc => ∃ (kq : Nat) (x75_18 : Bool), v75 = .bool x75_18 ∧ Aside0 (laws_FnExactHearSpans.j0 kq l1 t121 t124 t127 t137 t147 t150 t153 x75_18 a0_0 l0_1 l0_2 t114 t115 t118 t129 t130 t133 t140 t141 t144 = some r) ∧ Aside0 (kq ≤ k) ∧ Aside0 (Kd.R (Kd.int .i64) 3 wc w.heap.size (fun k_ => some k_ ≠ (v125 : Value).ownBlock ∧ some k_ ≠ (v148 : Value).ownBlock ∧ some k_ ≠ (v151 : Value).ownBlock ∧ some k_ ≠ ((.slice Ao34 t118.length co34) : Value).ownBlock ∧ some k_ ≠ ((.slice Ao42 t133.length co42) : Value).ownBlock ∧ some k_ ≠ ((.slice Ao53 t144.length co53) : Value).ownBlock) v122 t121) ∧ Aside0 (Kd.R (Kd.int .i64) 3 wc w.heap.size (fun k_ => some k_ ≠ (v122 : Value).ownBlock ∧ some k_ ≠ (v148 : Value).ownBlock ∧ some k_ ≠ (v151 : Value).ownBlock ∧ some k_ ≠ ((.slice Ao34 t118.length co34) : Value).ownBlock ∧ some k_ ≠ ((.slice Ao42 t133.length co42) : Value).ownBlock ∧ some k_ ≠ ((.slice Ao53 t144.length co53) : Value).ownBlock) v125 t124) ∧ Aside0 (Kd.R k59 59 wc w.heap.size (fun k_ => some k_ ≠ ((.slice Ao33 t115.length co33) : Value).ownBlock ∧ some k_ ≠ ((.slice Ao41 t130.length co41) : Value).ownBlock ∧ some k_ ≠ ((.slice Ao52 t141.length co52) : Value).ownBlock) (.slice Ao45 t137.length co45) t137) ∧ Aside0 (Kd.R (Kd.int .i64) 3 wc w.heap.size (fun k_ => some k_ ≠ (v122 : Value).ownBlock ∧ some k_ ≠ (v125 : Value).ownBlock ∧ some k_ ≠ (v151 : Value).ownBlock ∧ some k_ ≠ ((.slice Ao34 t118.length co34) : Value).ownBlock ∧ some k_ ≠ ((.slice Ao42 t133.length co42) : Value).ownBlock ∧ some k_ ≠ ((.slice Ao53 t144.length co53) : Value).ownBlock) v148 t147) ∧ Aside0 (Kd.R (Kd.int .i64) 3 wc w.heap.size (fun k_ => some k_ ≠ (v122 : Value).ownBlock ∧ some k_ ≠ (v125 : Value).ownBlock ∧ some k_ ≠ (v148 : Value).ownBlock ∧ some k_ ≠ ((.slice Ao34 t118.length co34) : Value).ownBlock ∧ some k_ ≠ ((.slice Ao42 t133.length co42) : Value).ownBlock ∧ some k_ ≠ ((.slice Ao53 t144.length co53) : Value).ownBlock) v151 t150) ∧ Aside0 (Kd.R k59 59 wc w.heap.size (fun k_ => some k_ ≠ ((.slice Ao45 t137.length co45) : Value).ownBlock ∧ some k_ ≠ ((.slice Ao41 t130.length co41) : Value).ownBlock ∧ some k_ ≠ ((.slice Ao52 t141.length co52) : Value).ownBlock) (.slice Ao33 t115.length co33) t115) ∧ Aside0 (Kd.R (Kd.int .i64) 3 wc w.heap.size (fun k_ => some k_ ≠ (v122 : Value).ownBlock ∧ some k_ ≠ (v125 : Value).ownBlock ∧ some k_ ≠ (v148 : Value).ownBlock ∧ some k_ ≠ (v151 : Value).ownBlock ∧ some k_ ≠ ((.slice Ao42 t133.length co42) : Value).ownBlock ∧ some k_ ≠ ((.slice Ao53 t144.length co53) : Value).ownBlock) (.slice Ao34 t118.length co34) t118) ∧ Aside0 (Kd.R k59 59 wc w.heap.size (fun k_ => some k_ ≠ ((.slice Ao45 t137.length co45) : Value).ownBlock ∧ some k_ ≠ ((.slice Ao33 t115.length co33) : Value).ownBlock ∧ some k_ ≠ ((.slice Ao52 t141.length co52) : Value).ownBlock) (.slice Ao41 t130.length co41) t130) ∧ Aside0 (Kd.R (Kd.int .i64) 3 wc w.heap.size (fun k_ => some k_ ≠ (v122 : Value).ownBlock ∧ some k_ ≠ (v125 : Value).ownBlock ∧ some k_ ≠ (v148 : Value).ownBlock ∧ some k_ ≠ (v151 : Value).ownBlock ∧ some k_ ≠ ((.slice Ao34 t118.length co34) : Value).ownBlock ∧ some k_ ≠ ((.slice Ao53 t144.length co53) : Value).ownBlock) (.slice Ao42 t133.length co42) t133) ∧ Aside0 (Kd.R k59 59 wc w.heap.size (fun k_ => some k_ ≠ ((.slice Ao45 t137.length co45) : Value).ownBlock ∧ some k_ ≠ ((.slice Ao33 t115.length co33) : Value).ownBlock ∧ some k_ ≠ ((.slice Ao41 t130.length co41) : Value).ownBlock) (.slice Ao52 t141.length co52) t141) ∧ Aside0 (Kd.R (Kd.int .i64) 3 wc w.heap.size (fun k_ => some k_ ≠ (v122 : Value).ownBlock ∧ some k_ ≠ (v125 : Value).ownBlock ∧ some k_ ≠ (v148 : Value).ownBlock ∧ some k_ ≠ (v151 : Value).ownBlock ∧ some k_ ≠ ((.slice Ao34 t118.length co34) : Value).ownBlock ∧ some k_ ≠ ((.slice Ao42 t133.length co42) : Value).ownBlock) (.slice Ao53 t144.length co53) t144) ∧ Aside0 (wc.heap[gb101]? = some (.cells #[.int .i64 a0_0, (.slice A0_1 l0_1.length c0_1), (.slice A0_2 l0_2.length c0_2)] 25 (0, 0))) ∧ Aside0 (wc.heap[gb128]? = some (.cells #[.int .i64 t114, (.slice Ao33 t115.length co33), (.slice Ao34 t118.length co34)] 31 (0, 0))) ∧ Aside0 (wc.heap[gb136]? = some (.cells #[.int .i64 t129, (.slice Ao41 t130.length co41), (.slice Ao42 t133.length co42)] 31 (0, 0))) ∧ Aside0 (wc.heap[gb154]? = some (.cells #[.int .i64 t140, (.slice Ao52 t141.length co52), (.slice Ao53 t144.length co53)] 31 (0, 0))) ∧ Aside0 (Below w.heap.size w wc))
   case first =>
    have H := HC19.out
    clear HC19
    obtain ⟨t155, A54, H⟩ := sN H
    by_cases c55 : t155 = true
    ·subst c55
     replace H := sY H
     obtain ⟨t156, A56, H⟩ := sN H
     by_cases c57 : t156 = true
     ·subst c57
      replace H := sY H
      obtain ⟨t157, A58, H⟩ := sN H
      by_cases c59 : t157 = true
      ·subst c59
       replace H := sY H
       have H' := sA H
       clear H
       have := NB154_101.out
       have := NB101_154.out
       have := NB154_128.out
       have := NB128_154.out
       have := NB154_136.out
       have := NB136_154.out
       obtain ⟨_, _, _, _, _, _⟩ := sD3 BK154
       have := NB128_101.out
       have := NB101_128.out
       have := NB128_136.out
       have := NB136_128.out
       obtain ⟨_, _, _, _, _, _⟩ := sD3 BK128
       go_wp2_with (first | ((with_reducible refine gate_callee (f := 13) rfl ?_); refine goesL_ (some 57) rfl rfl Try.func13 (by kernel_rfl) rfl #[.agg #[.int .i64 t140, .slice Ao52 t141.length co52, .slice Ao53 t144.length co53], .agg #[.int .i64 t114, .slice Ao33 t115.length co33, .slice Ao34 t118.length co34]] rfl sG ?_; (with_reducible refine (laws_eqSender.calls k t140 _ _ t141 _ _ t144 t114 _ _ t115 _ _ t118 true _ ?side1 ?side2 ?side3 ?side4 ?side5 ?side6 ?side7 ?side8 A54.out).mono ?_); (case side1 => exact (Kd.R_reads' (sE HO143 BK154 (by decide))).2.2); (case side2 => exact (Kd.R_reads' HO143.out).2.1); (case side3 => exact (Kd.R_reads' (sE HO146 BK154 (by decide))).2.2); (case side4 => exact (Kd.R_reads' HO146.out).2.1); (case side5 => exact (Kd.R_reads' (sE HO117 BK154 (by decide))).2.2); (case side6 => exact (Kd.R_reads' HO117.out).2.1); (case side7 => exact (Kd.R_reads' (sE HO120 BK154 (by decide))).2.2); (case side8 => exact (Kd.R_reads' HO120.out).2.1); rintro e w67 ⟨rfl, hb⟩; refine ⟨_, rfl, ?_⟩; replace HO107 := sA (Kd.R_below (sE HO107 BK154 (by decide)) hb); replace HO110 := sA (Kd.R_below (sE HO110 BK154 (by decide)) hb); replace HO113 := sA (Kd.R_below (sE HO113 BK154 (by decide)) hb); replace HO117 := sA (Kd.R_below (sE HO117 BK154 (by decide)) hb); replace HO120 := sA (Kd.R_below (sE HO120 BK154 (by decide)) hb); replace HO123 := sA (Kd.R_below (sE HO123 BK154 (by decide)) hb); replace HO126 := sA (Kd.R_below (sE HO126 BK154 (by decide)) hb); replace HO132 := sA (Kd.R_below (sE HO132 BK154 (by decide)) hb); replace HO135 := sA (Kd.R_below (sE HO135 BK154 (by decide)) hb); replace HO139 := sA (Kd.R_below (sE HO139 BK154 (by decide)) hb); replace HO143 := sA (Kd.R_below (sE HO143 BK154 (by decide)) hb); replace HO146 := sA (Kd.R_below (sE HO146 BK154 (by decide)) hb); replace HO149 := sA (Kd.R_below (sE HO149 BK154 (by decide)) hb); replace HO152 := sA (Kd.R_below (sE HO152 BK154 (by decide)) hb); replace BK101 := sA (blk_below (g := gb101) (o := .cells #[.int .i64 a0_0, .slice A0_1 l0_1.length c0_1, .slice A0_2 l0_2.length c0_2] 25 (0, 0)) (sF BK101 NB101_154) hb); replace BK128 := sA (blk_below (g := gb128) (o := .cells #[.int .i64 t114, .slice Ao33 t115.length co33, .slice Ao34 t118.length co34] 31 (0, 0)) (sF BK128 NB128_154) hb); replace BK136 := sA (blk_below (g := gb136) (o := .cells #[.int .i64 t129, .slice Ao41 t130.length co41, .slice Ao42 t133.length co42] 31 (0, 0)) (sF BK136 NB136_154) hb); replace BK154 := sA (blk_below (g := gb154) (o := .cells #[.int .i64 t140, .slice Ao52 t141.length co52, .slice Ao53 t144.length co53] 31 (0, 0)) (by (with_reducible repeat first | apply blk_drewN | apply blk_drew | apply blk_alloc); refine blk_put (cs := #[.int .i64 t140, .slice Ao52 t141.length co52, .slice none 0 0]) ?_ 2 _ rfl; (with_reducible repeat first | apply blk_drewN | apply blk_drew | apply blk_alloc); refine blk_put (cs := #[.int .i64 t140, .slice none 0 0, .slice none 0 0]) ?_ 1 _ rfl; (with_reducible repeat first | apply blk_drewN | apply blk_drew | apply blk_alloc); refine blk_put (cs := #[.int .i64 0, .slice none 0 0, .slice none 0 0]) ?_ 0 _ rfl; (with_reducible repeat first | apply blk_drewN | apply blk_drew | apply blk_alloc); exact BK154.out) hb); replace HB := sA (below_step sH hb); (try clear hb); (try clear hb2); (try clear hk); (try clear hi); obtain ⟨Ao68, co68, eo68⟩ := Kd.R_slice HO149.out; subst eo68; obtain ⟨Ao69, co69, eo69⟩ := Kd.R_slice HO123.out; subst eo69) | (go_at_call 12; (with_reducible refine (laws_eqIntS.calls k _ _ t147 _ _ t121 true _ ?side1 ?side2 ?side3 ?side4 A56.out).mono ?_); (case side1 => exact sK (Kd.R_reads' HO149.out).2.2); (case side2 => exact (Kd.R_reads' HO149.out).2.1); (case side3 => exact sK (Kd.R_reads' HO123.out).2.2); (case side4 => exact (Kd.R_reads' HO123.out).2.1); rintro e w' ⟨rfl, ⟨nd, rfl⟩⟩; obtain ⟨Ao70, co70, eo70⟩ := Kd.R_slice HO152.out; subst eo70; obtain ⟨Ao71, co71, eo71⟩ := Kd.R_slice HO126.out; subst eo71) | (go_at_call 12; (with_reducible refine (laws_eqIntS.calls k _ _ t150 _ _ t124 true _ ?side1 ?side2 ?side3 ?side4 A58.out).mono ?_); (case side1 => exact sK (Kd.R_reads' HO152.out).2.2); (case side2 => exact (Kd.R_reads' HO152.out).2.1); (case side3 => exact sK (Kd.R_reads' HO126.out).2.2); (case side4 => exact (Kd.R_reads' HO126.out).2.1); rintro e w' ⟨rfl, ⟨nd, rfl⟩⟩))
       go_meet
       case rel => exact ⟨_, ((t153 != t127)), (by first | rfl | (simp; done) | (simp [*]; done)), H', ⟨by first | omega | exact Nat.le_refl _⟩, ⟨by (with_reducible repeat (first | apply Kd.R_alloc | apply Kd.R_drewN | apply Kd.R_drew)); exact Kd.R_mono HO123.out (fun _ hk => by first | exact ⟨hk.1.1.1.1.1.2, ⟨hk.1.2, ⟨hk.2, ⟨hk.1.1.1.1.1.1, ⟨hk.1.1.1.2, hk.1.1.2⟩⟩⟩⟩⟩ | (simp only [ne_eq] at hk ⊢; simp only [hk, not_false_eq_true, and_self]))⟩, ⟨by (with_reducible repeat (first | apply Kd.R_alloc | apply Kd.R_drewN | apply Kd.R_drew)); exact Kd.R_mono HO126.out (fun _ hk => by first | exact ⟨hk.1.1.1.1.1.2, ⟨hk.1.2, ⟨hk.2, ⟨hk.1.1.1.1.1.1, ⟨hk.1.1.1.2, hk.1.1.2⟩⟩⟩⟩⟩ | (simp only [ne_eq] at hk ⊢; simp only [hk, not_false_eq_true, and_self]))⟩, ⟨by (with_reducible repeat (first | apply Kd.R_alloc | apply Kd.R_drewN | apply Kd.R_drew)); exact Kd.R_mono HO139.out (fun _ hk => by first | exact ⟨hk.1.1.2, ⟨hk.1.2, hk.2⟩⟩ | (simp only [ne_eq] at hk ⊢; simp only [hk, not_false_eq_true, and_self]))⟩, ⟨by (with_reducible repeat (first | apply Kd.R_alloc | apply Kd.R_drewN | apply Kd.R_drew)); exact Kd.R_mono HO149.out (fun _ hk => by first | exact ⟨hk.1.1.2, ⟨hk.1.2, ⟨hk.1.1.1.1.1.2, ⟨hk.1.1.1.2, ⟨hk.2, hk.1.1.1.1.1.1⟩⟩⟩⟩⟩ | (simp only [ne_eq] at hk ⊢; simp only [hk, not_false_eq_true, and_self]))⟩, ⟨by (with_reducible repeat (first | apply Kd.R_alloc | apply Kd.R_drewN | apply Kd.R_drew)); exact Kd.R_mono HO152.out (fun _ hk => by first | exact ⟨hk.1.1.2, ⟨hk.1.2, ⟨hk.1.1.1.1.1.2, ⟨hk.1.1.1.2, ⟨hk.2, hk.1.1.1.1.1.1⟩⟩⟩⟩⟩ | (simp only [ne_eq] at hk ⊢; simp only [hk, not_false_eq_true, and_self]))⟩, ⟨by (with_reducible repeat (first | apply Kd.R_alloc | apply Kd.R_drewN | apply Kd.R_drew)); exact Kd.R_mono HO117.out (fun _ hk => by first | exact ⟨hk.1.2, ⟨hk.1.1.2, hk.2⟩⟩ | (simp only [ne_eq] at hk ⊢; simp only [hk, not_false_eq_true, and_self]))⟩, ⟨by (with_reducible repeat (first | apply Kd.R_alloc | apply Kd.R_drewN | apply Kd.R_drew)); exact Kd.R_mono HO120.out (fun _ hk => by first | exact ⟨hk.1.1.1.1.1.1, ⟨hk.1.1.1.1.1.2, ⟨hk.1.2, ⟨hk.2, ⟨hk.1.1.1.2, hk.1.1.2⟩⟩⟩⟩⟩ | (simp only [ne_eq] at hk ⊢; simp only [hk, not_false_eq_true, and_self]))⟩, ⟨by (with_reducible repeat (first | apply Kd.R_alloc | apply Kd.R_drewN | apply Kd.R_drew)); exact Kd.R_mono HO132.out (fun _ hk => by first | exact ⟨hk.1.2, ⟨hk.1.1.2, hk.2⟩⟩ | (simp only [ne_eq] at hk ⊢; simp only [hk, not_false_eq_true, and_self]))⟩, ⟨by (with_reducible repeat (first | apply Kd.R_alloc | apply Kd.R_drewN | apply Kd.R_drew)); exact Kd.R_mono HO135.out (fun _ hk => by first | exact ⟨hk.1.1.1.1.2, ⟨hk.1.1.1.2, ⟨hk.1.2, ⟨hk.2, ⟨hk.1.1.1.1.1.2, hk.1.1.2⟩⟩⟩⟩⟩ | (simp only [ne_eq] at hk ⊢; simp only [hk, not_false_eq_true, and_self]))⟩, ⟨by (with_reducible repeat (first | apply Kd.R_alloc | apply Kd.R_drewN | apply Kd.R_drew)); exact Kd.R_mono HO143.out (fun _ hk => by first | exact ⟨hk.2, ⟨hk.1.1.2, hk.1.2⟩⟩ | (simp only [ne_eq] at hk ⊢; simp only [hk, not_false_eq_true, and_self]))⟩, ⟨by (with_reducible repeat (first | apply Kd.R_alloc | apply Kd.R_drewN | apply Kd.R_drew)); exact Kd.R_mono HO146.out (fun _ hk => by first | exact ⟨hk.1.1.2, ⟨hk.1.2, ⟨hk.1.1.1.1.1.1, ⟨hk.1.1.1.1.1.2, ⟨hk.1.1.1.2, hk.2⟩⟩⟩⟩⟩ | (simp only [ne_eq] at hk ⊢; simp only [hk, not_false_eq_true, and_self]))⟩, ⟨sB BK101.out⟩, ⟨sB BK128.out⟩, ⟨sB BK136.out⟩, ⟨sB BK154.out⟩, ⟨sH⟩⟩
      ·replace c59 := Bool.eq_false_iff.mpr c59
       subst c59
       replace H := sX H
       exact False.elim (by first | exact laws_FnExactHearSpans.j0_true hr_ H | exact laws_FnExactHearSpans.j1_true hr_ H | exact laws_FnExactHearSpans.j2_true hr_ H)
     ·replace c57 := Bool.eq_false_iff.mpr c57
      subst c57
      replace H := sX H
      exact False.elim (by first | exact laws_FnExactHearSpans.j0_true hr_ H | exact laws_FnExactHearSpans.j1_true hr_ H | exact laws_FnExactHearSpans.j2_true hr_ H)
    ·replace c55 := Bool.eq_false_iff.mpr c55
     subst c55
     replace H := sX H
     exact False.elim (by first | exact laws_FnExactHearSpans.j0_true hr_ H | exact laws_FnExactHearSpans.j1_true hr_ H | exact laws_FnExactHearSpans.j2_true hr_ H)
   case rest =>
    clear HC19
    (try clear c1); (try clear c2); (try clear p2); (try clear c3); (try clear c4); (try clear c4b0); (try clear c5); (try clear c6); (try clear c7); (try clear c8); (try clear c9); (try clear c9b0); (try clear c10); (try clear c13); (try clear c20); (try clear c21); (try clear c22); (try clear c23); (try clear c31); (try clear c38); (try clear c39); (try clear c48); (try clear c49); (try clear c50); (try clear c55); (try clear c57); (try clear c59); (try clear c60); (try clear c61); (try clear c62); (try clear c64); (try clear c65); (try clear c72); (try clear c73); (try clear c74); (try clear c76); (try clear c77); (try clear c84); (try clear c85); (try clear c86); (try clear c88); (try clear c89); (try clear c94); (try clear c95); (try clear c96); (try clear c98); (try clear c99)
    obtain ⟨kq, x75_18, rfl, HA, HJ18, HO_7, HO_8, HO_11, HO_13, HO_14, HO_129001, HO_129002, HO_137001, HO_137002, HO_155001, HO_155002, BK101, BK128, BK136, BK154, HB⟩ := hcut
    cases kq with
    | zero => exact absurd HA.out (by simp [laws_FnExactHearSpans.j0])
    | succ kj18 =>
     have H := HA.out
     clear HA
     simp only [laws_FnExactHearSpans.j0] at H
     by_cases c102 : x75_18 = true
     ·subst c102
      replace H := sY H
      exact absurd (hr_.symm.trans (Option.some.inj H).symm) (by decide)
     ·replace c102 := Bool.eq_false_iff.mpr c102
      subst c102
      replace H := sX H
      obtain ⟨⟨t158, t159, t162⟩, A103, H⟩ := sN H
      (try dsimp only at H)
      obtain ⟨t165, A104, H⟩ := sN H
      by_cases c105 : t165 = true
      ·subst c105
       replace H := sY H
       obtain ⟨t166, A106, H⟩ := sN H
       obtain ⟨t169, A107, H⟩ := sN H
       by_cases c108 : t169 = true
       ·subst c108
        replace H := sY H
        obtain ⟨⟨t170, t171, t172⟩, A109, H⟩ := sN H
        (try dsimp only at H)
        obtain ⟨⟨t173, t174⟩, A110, H⟩ := sN H
        (try dsimp only at H)
        have HC111 := sA H
        clear H
        try go_wp2
        replace HO_7 := sA (Kd.R_drew HO_7.out)
        replace HO_8 := sA (Kd.R_drew HO_8.out)
        replace HO_11 := sA (Kd.R_drew HO_11.out)
        replace HO_13 := sA (Kd.R_drew HO_13.out)
        replace HO_14 := sA (Kd.R_drew HO_14.out)
        replace HO_129001 := sA (Kd.R_drew HO_129001.out)
        replace HO_129002 := sA (Kd.R_drew HO_129002.out)
        replace HO_137001 := sA (Kd.R_drew HO_137001.out)
        replace HO_137002 := sA (Kd.R_drew HO_137002.out)
        replace HO_155001 := sA (Kd.R_drew HO_155001.out)
        replace HO_155002 := sA (Kd.R_drew HO_155002.out)
        replace BK101 := sA (blk_drew BK101.out)
        replace BK128 := sA (blk_drew BK128.out)
        replace BK136 := sA (blk_drew BK136.out)
        replace BK154 := sA (blk_drew BK154.out)
        replace HB := sA (below_drew1 HB.out)
        refine start_ (n := 5) (S := fun w' => w'.cell? ⟨gb136, 0, none⟩ = some (.int .i64 t129) ∧ w'.cell? ⟨gb136, 1, none⟩ = some (.slice Ao41 t130.length co41) ∧ w'.cell? ⟨gb136, 2, none⟩ = some (.slice Ao42 t133.length co42) ∧ w'.cell? ⟨gb101, 0, none⟩ = some (.int .i64 a0_0) ∧ w'.cell? ⟨gb101, 1, none⟩ = some (.slice A0_1 l0_1.length c0_1) ∧ w'.cell? ⟨gb101, 2, none⟩ = some (.slice A0_2 l0_2.length c0_2)) (ds := []) (sM 5 0) (by kernel_rfl) rfl rfl ⟨sC BK136 0 rfl, sC BK136 1 rfl, sC BK136 2 rfl, sC BK101 0 rfl, sC BK101 1 rfl, sC BK101 2 rfl⟩ (fun hHeld => ?_)
        generalize wc.drew = w112 at HO_7 HO_8 HO_11 HO_13 HO_14 HO_129001 HO_129002 HO_137001 HO_137002 HO_155001 HO_155002 BK101 BK128 BK136 BK154 HB hHeld ⊢
        refine take_ (i := 0) (N := some 76) (v := ?_) (a' := ?_) (sM 5 1) rfl rfl (by kernel_rfl) (fun _ _ _ h => h) (Or.inl ⟨by rfl, ?_⟩) hHeld ?_ ?_
        rotate_left
        ·rintro w' ⟨s0, s1, s2, s3, s4, s5⟩
         go_simp
         with_reducible rfl
        rotate_left
        ·simp only [Act.put, sI, sZ, sV, i64_w, i32_w]
         rfl
        refine take_ (i := 1) (N := some 77) (v := ?_) (a' := ?_) (sM 5 3) rfl rfl (by kernel_rfl) (fun _ _ _ h => h) (Or.inl ⟨by rfl, ?_⟩) hHeld ?_ ?_
        rotate_left
        ·rintro w' ⟨s0, s1, s2, s3, s4, s5⟩
         go_simp
         with_reducible rfl
        rotate_left
        ·simp only [Act.put, sI, sZ, sV, i64_w, i32_w]
         rfl
        refine one_ (i := 2) (N := some 78) (sM 5 7) rfl rfl (by kernel_rfl) (by decide) (fun K hK => ?_)
        refine goes_ Try.func10 (by kernel_rfl) rfl #[.agg #[.int .i64 a0_0, .slice A0_1 l0_1.length c0_1, .slice A0_2 l0_2.length c0_2]] (by rfl) rfl rfl sG ?_
        with_reducible refine (laws_toSender.calls kj18 a0_0 _ _ l0_1 _ _ l0_2 t158 t159 t162 _ ?side1 ?side2 ?side3 ?side4 A103.out).mono ?_
        (case side1 => exact sK (Kd.C_below HR0_1.out HB.out))
        (case side2 => exact HC0_1.out)
        (case side3 => exact sK (Kd.C_below HR0_2.out HB.out))
        (case side4 => exact HC0_2.out)
        rintro e w113 ⟨v160, v163, rfl, ho0, ho1, hb⟩
        refine ⟨_, rfl, ?_⟩
        have HO161 := sA (Kd.R_lower (Kd.R_new' (Kd.R_new' (Kd.R_new' (Kd.R_new' ho0 (Kd.R_lt (sR HO_11.out))) (Kd.R_lt (sR HO_129001.out))) (Kd.R_lt (sR HO_137001.out))) (Kd.R_lt (sR HO_155001.out))) (below_size sH))
        replace HO_11 := sA (Kd.R_elder' (sR HO_11.out) (Kd.R_base ho0) hb)
        replace HO_129001 := sA (Kd.R_elder' (sR HO_129001.out) (Kd.R_base ho0) hb)
        replace HO_137001 := sA (Kd.R_elder' (sR HO_137001.out) (Kd.R_base ho0) hb)
        replace HO_155001 := sA (Kd.R_elder' (sR HO_155001.out) (Kd.R_base ho0) hb)
        have HO164 := sA (Kd.R_lower (Kd.R_new' (Kd.R_new' (Kd.R_new' (Kd.R_new' (Kd.R_new' (Kd.R_new' (Kd.R_new' ho1 (Kd.R_lt (sR HO_7.out))) (Kd.R_lt (sR HO_8.out))) (Kd.R_lt (sR HO_13.out))) (Kd.R_lt (sR HO_14.out))) (Kd.R_lt (sR HO_129002.out))) (Kd.R_lt (sR HO_137002.out))) (Kd.R_lt (sR HO_155002.out))) (below_size sH))
        replace HO_7 := sA (Kd.R_elder' (sR HO_7.out) (Kd.R_base ho1) hb)
        replace HO_8 := sA (Kd.R_elder' (sR HO_8.out) (Kd.R_base ho1) hb)
        replace HO_13 := sA (Kd.R_elder' (sR HO_13.out) (Kd.R_base ho1) hb)
        replace HO_14 := sA (Kd.R_elder' (sR HO_14.out) (Kd.R_base ho1) hb)
        replace HO_129002 := sA (Kd.R_elder' (sR HO_129002.out) (Kd.R_base ho1) hb)
        replace HO_137002 := sA (Kd.R_elder' (sR HO_137002.out) (Kd.R_base ho1) hb)
        replace HO_155002 := sA (Kd.R_elder' (sR HO_155002.out) (Kd.R_base ho1) hb)
        replace BK101 := sJ BK101 hb
        replace BK128 := sJ BK128 hb
        replace BK136 := sJ BK136 hb
        replace BK154 := sJ BK154 hb
        replace HB := sA (below_step sH hb)
        (try clear hb)
        (try clear hb2)
        (try clear hk)
        (try clear hi)
        (try clear ho0)
        (try clear ho1)
        obtain ⟨Ao114, co114, eo114⟩ := Kd.R_slice HO161.out
        (first | subst eo114 | (injection eo114 with f1_ f2_ f3_; have f4_ := f1_.symm; have f5_ := f3_.symm; clear f1_ f2_ f3_; subst f4_; subst f5_))
        obtain ⟨Ao115, co115, eo115⟩ := Kd.R_slice HO164.out
        (first | subst eo115 | (injection eo115 with f1_ f2_ f3_; have f4_ := f1_.symm; have f5_ := f3_.symm; clear f1_ f2_ f3_; subst f4_; subst f5_))
        refine hK.out _ _ ⟨sC BK136 0 rfl, sC BK136 1 rfl, sC BK136 2 rfl, sC BK101 0 rfl, sC BK101 1 rfl, sC BK101 2 rfl⟩ (fun hHeld => ?_)
        clear hK K
        refine norm_ (a' := ?_) ?_ ?_
        rotate_left
        ·show Act.put _ (some 78) _ = _
         simp only [Act.put, sI, sZ, sV, i64_w, i32_w]
         rfl
        refine one_ (i := 3) (N := some 79) (sM 5 15) rfl rfl (by kernel_rfl) (by decide) (fun K hK => ?_)
        refine goes_ Try.func13 (by kernel_rfl) rfl #[.agg #[.int .i64 t129, .slice Ao41 t130.length co41, .slice Ao42 t133.length co42], .agg #[.int .i64 t158, .slice Ao114 t159.length co114, .slice Ao115 t162.length co115]] (by rfl) rfl rfl sG ?_
        with_reducible refine (laws_eqSender.calls kj18 t129 _ _ t130 _ _ t133 t158 _ _ t159 _ _ t162 true _ ?side1 ?side2 ?side3 ?side4 ?side5 ?side6 ?side7 ?side8 A104.out).mono ?_
        (case side1 => exact sK (Kd.R_reads' HO_137001.out).2.2)
        (case side2 => exact (Kd.R_reads' HO_137001.out).2.1)
        (case side3 => exact sK (Kd.R_reads' HO_137002.out).2.2)
        (case side4 => exact (Kd.R_reads' HO_137002.out).2.1)
        (case side5 => exact sK (Kd.R_reads' HO161.out).2.2)
        (case side6 => exact (Kd.R_reads' HO161.out).2.1)
        (case side7 => exact sK (Kd.R_reads' HO164.out).2.2)
        (case side8 => exact (Kd.R_reads' HO164.out).2.1)
        rintro e w116 ⟨rfl, hb⟩
        refine ⟨_, rfl, ?_⟩
        replace HO_7 := sS HO_7 hb
        replace HO_8 := sS HO_8 hb
        replace HO_11 := sS HO_11 hb
        replace HO_13 := sS HO_13 hb
        replace HO_14 := sS HO_14 hb
        replace HO_129001 := sS HO_129001 hb
        replace HO_129002 := sS HO_129002 hb
        replace HO_137001 := sS HO_137001 hb
        replace HO_137002 := sS HO_137002 hb
        replace HO_155001 := sS HO_155001 hb
        replace HO_155002 := sS HO_155002 hb
        replace HO161 := sS HO161 hb
        replace HO164 := sS HO164 hb
        replace BK101 := sJ BK101 hb
        replace BK128 := sJ BK128 hb
        replace BK136 := sJ BK136 hb
        replace BK154 := sJ BK154 hb
        replace HB := sA (below_step sH hb)
        (try clear hb)
        (try clear hb2)
        (try clear hk)
        (try clear hi)
        refine hK.out _ _ ⟨sC BK136 0 rfl, sC BK136 1 rfl, sC BK136 2 rfl, sC BK101 0 rfl, sC BK101 1 rfl, sC BK101 2 rfl⟩ (fun hHeld => ?_)
        clear hK K
        refine norm_ (a' := ?_) ?_ ?_
        rotate_left
        ·show Act.put _ (some 79) _ = _
         simp only [Act.put, sI, sZ, sV, i64_w, i32_w]
         rfl
        refine pure_ (i := 4) (N := some 80) (v := ?_) (a' := ?_) (sM 5 31) rfl rfl (by kernel_rfl) (fun _ _ _ h => h) (Or.inl ⟨by rfl, ?_⟩) ?_ ?_
        rotate_left
        ·intro w'
         go_simp
         with_reducible rfl
        rotate_left
        ·simp only [Act.put, sI, sZ, sV, i64_w, i32_w]
         rfl
        refine done_ (by kernel_rfl) ?_
        go_upto_region 21 with (first | ((with_reducible refine gate_callee (f := 22) rfl ?_); refine goesL_ (some 83) rfl rfl Try.func22 (by kernel_rfl) rfl #[.slice A1 l1.length c1] rfl sG ?_; (with_reducible refine (laws_toSpanS.calls kj18 _ _ l1 t166 _ ?side1 ?side2 A106.out).mono ?_); (case side1 => exact sK (Kd.C_below HR1.out HB.out)); (case side2 => exact HC1.out); rintro e w117 ⟨v167, rfl, ho0, hb⟩; refine ⟨_, rfl, ?_⟩; replace HO_7 := sS HO_7 hb; replace HO_8 := sS HO_8 hb; replace HO_13 := sS HO_13 hb; replace HO_14 := sS HO_14 hb; replace HO_129002 := sS HO_129002 hb; replace HO_137002 := sS HO_137002 hb; replace HO_155002 := sS HO_155002 hb; replace HO164 := sS HO164 hb; have HO168 := sA (Kd.R_lower (Kd.R_new' (Kd.R_new' (Kd.R_new' (Kd.R_new' (Kd.R_new' ho0 (Kd.R_lt (sR HO_11.out))) (Kd.R_lt (sR HO_129001.out))) (Kd.R_lt (sR HO_137001.out))) (Kd.R_lt (sR HO_155001.out))) (Kd.R_lt (sR HO161.out))) (below_size sH)); replace HO_11 := sA (Kd.R_elder' (sR HO_11.out) (Kd.R_base ho0) hb); replace HO_129001 := sA (Kd.R_elder' (sR HO_129001.out) (Kd.R_base ho0) hb); replace HO_137001 := sA (Kd.R_elder' (sR HO_137001.out) (Kd.R_base ho0) hb); replace HO_155001 := sA (Kd.R_elder' (sR HO_155001.out) (Kd.R_base ho0) hb); replace HO161 := sA (Kd.R_elder' (sR HO161.out) (Kd.R_base ho0) hb); replace BK101 := sJ BK101 hb; replace BK128 := sJ BK128 hb; replace BK136 := sJ BK136 hb; replace BK154 := sJ BK154 hb; replace HB := sA (below_step sH hb); (try clear hb); (try clear hb2); (try clear hk); (try clear hi); (try clear ho0); obtain ⟨Ao118, co118, eo118⟩ := Kd.R_slice HO168.out; subst eo118) | ((with_reducible refine gate_callee (f := 24) rfl ?_); refine goesL_ (some 84) rfl rfl Try.func24 (by kernel_rfl) rfl #[.slice Ao45 t137.length co45, .slice Ao118 t166.length co118] rfl sG ?_; (with_reducible refine (laws_eqSpanS.calls kj18 _ _ t137 _ _ t166 true _ ?side1 ?side2 ?side3 ?side4 A107.out).mono ?_); (case side1 => exact sK (Kd.R_reads' HO_11.out).2.2); (case side2 => exact (Kd.R_reads' HO_11.out).2.1); (case side3 => exact sK (Kd.R_reads' HO168.out).2.2); (case side4 => exact (Kd.R_reads' HO168.out).2.1); rintro e w119 ⟨rfl, hb⟩; refine ⟨_, rfl, ?_⟩; replace HO_7 := sS HO_7 hb; replace HO_8 := sS HO_8 hb; replace HO_11 := sS HO_11 hb; replace HO_13 := sS HO_13 hb; replace HO_14 := sS HO_14 hb; replace HO_129001 := sS HO_129001 hb; replace HO_129002 := sS HO_129002 hb; replace HO_137001 := sS HO_137001 hb; replace HO_137002 := sS HO_137002 hb; replace HO_155001 := sS HO_155001 hb; replace HO_155002 := sS HO_155002 hb; replace HO161 := sS HO161 hb; replace HO164 := sS HO164 hb; replace HO168 := sS HO168 hb; replace BK101 := sJ BK101 hb; replace BK128 := sJ BK128 hb; replace BK136 := sJ BK136 hb; replace BK154 := sJ BK154 hb; replace HB := sA (below_step sH hb); (try clear hb); (try clear hb2); (try clear hk); (try clear hi); have := NB136_101.out; have := NB101_136.out; have := NB136_128.out; have := NB128_136.out; have := NB136_154.out; have := NB154_136.out; obtain ⟨_, _, _, _, _, _⟩ := sD3 BK136) | ((with_reducible refine gate_callee (f := 14) rfl ?_); refine goesL_ (some 88) rfl rfl Try.func14 (by kernel_rfl) rfl #[.agg #[.int .i64 t129, .slice Ao41 t130.length co41, .slice Ao42 t133.length co42], .int .i64 1] rfl sG ?_; (with_reducible refine (laws_markSender.calls kj18 t129 (fun k_ => some k_ = (.slice Ao41 t130.length co41 : Value).ownBlock) (.slice Ao41 t130.length co41) t130 (fun k_ => some k_ = (.slice Ao42 t133.length co42 : Value).ownBlock) (.slice Ao42 t133.length co42) t133 1 t170 t171 t172 w _ ?side1 ?side2 ?side3 A109.out).mono ?_); (case side1 => repeat (first | (with_reducible first | exact HB.out | apply sLA | apply sLN | apply sLD | refine sLS ?_ GE101.out | refine sLS ?_ GE128.out | refine sLS ?_ GE136.out | refine sLS ?_ GE154.out) | exact HB.out)); (case side2 => exact Kd.R_tight rfl HO_137001.out); (case side3 => exact Kd.R_tight rfl HO_137002.out); rintro e w124 ⟨rfl, hy0, hy1, hb, hkp⟩; refine ⟨_, rfl, ?_⟩; replace HO_7 := sA (Kd.R_mono (ok' := fun k_ => some k_ ≠ (v125 : Value).ownBlock ∧ some k_ ≠ (v148 : Value).ownBlock ∧ some k_ ≠ (v151 : Value).ownBlock ∧ some k_ ≠ (.slice Ao34 t118.length co34 : Value).ownBlock ∧ some k_ ≠ (.slice Ao42 t133.length co42 : Value).ownBlock ∧ some k_ ≠ (.slice Ao53 t144.length co53 : Value).ownBlock ∧ some k_ ≠ (.slice Ao115 t162.length co115 : Value).ownBlock) (Kd.R_keptB ((Kd.R_apart' HO_7.out (Kd.R_typed HO_137001.out) (by decide))) hkp (fun k_ hk_ hs_ => Or.elim hs_ (fun e_ => (hk_.2) e_) (fun e_ => (hk_.1.1.2.2.2.2.1) e_))) (fun k_ hk_ => ⟨hk_.1.1.1.1, hk_.1.1.1.2.1, hk_.1.1.1.2.2.1, hk_.1.1.1.2.2.2.1, hk_.1.1.1.2.2.2.2.1, hk_.1.1.1.2.2.2.2.2, hk_.1.1.2⟩)); replace HO_8 := sA (Kd.R_mono (ok' := fun k_ => some k_ ≠ (v122 : Value).ownBlock ∧ some k_ ≠ (v148 : Value).ownBlock ∧ some k_ ≠ (v151 : Value).ownBlock ∧ some k_ ≠ (.slice Ao34 t118.length co34 : Value).ownBlock ∧ some k_ ≠ (.slice Ao42 t133.length co42 : Value).ownBlock ∧ some k_ ≠ (.slice Ao53 t144.length co53 : Value).ownBlock ∧ some k_ ≠ (.slice Ao115 t162.length co115 : Value).ownBlock) (Kd.R_keptB ((Kd.R_apart' HO_8.out (Kd.R_typed HO_137001.out) (by decide))) hkp (fun k_ hk_ hs_ => Or.elim hs_ (fun e_ => (hk_.2) e_) (fun e_ => (hk_.1.1.2.2.2.2.1) e_))) (fun k_ hk_ => ⟨hk_.1.1.1.1, hk_.1.1.1.2.1, hk_.1.1.1.2.2.1, hk_.1.1.1.2.2.2.1, hk_.1.1.1.2.2.2.2.1, hk_.1.1.1.2.2.2.2.2, hk_.1.1.2⟩)); replace HO_11 := sA (Kd.R_mono (ok' := fun k_ => some k_ ≠ (.slice Ao33 t115.length co33 : Value).ownBlock ∧ some k_ ≠ (.slice Ao41 t130.length co41 : Value).ownBlock ∧ some k_ ≠ (.slice Ao52 t141.length co52 : Value).ownBlock ∧ some k_ ≠ (.slice Ao114 t159.length co114 : Value).ownBlock ∧ some k_ ≠ (.slice Ao118 t166.length co118 : Value).ownBlock) (Kd.R_keptB ((Kd.R_apart' HO_11.out (Kd.R_typed HO_137002.out) (by decide))) hkp (fun k_ hk_ hs_ => Or.elim hs_ (fun e_ => (hk_.1.1.1.2.1) e_) (fun e_ => (hk_.2) e_))) (fun k_ hk_ => ⟨hk_.1.1.1.1.1, hk_.1.1.1.1.2.1, hk_.1.1.1.1.2.2, hk_.1.1.1.2, hk_.1.1.2⟩)); replace HO_13 := sA (Kd.R_mono (ok' := fun k_ => some k_ ≠ (v122 : Value).ownBlock ∧ some k_ ≠ (v125 : Value).ownBlock ∧ some k_ ≠ (v151 : Value).ownBlock ∧ some k_ ≠ (.slice Ao34 t118.length co34 : Value).ownBlock ∧ some k_ ≠ (.slice Ao42 t133.length co42 : Value).ownBlock ∧ some k_ ≠ (.slice Ao53 t144.length co53 : Value).ownBlock ∧ some k_ ≠ (.slice Ao115 t162.length co115 : Value).ownBlock) (Kd.R_keptB ((Kd.R_apart' HO_13.out (Kd.R_typed HO_137001.out) (by decide))) hkp (fun k_ hk_ hs_ => Or.elim hs_ (fun e_ => (hk_.2) e_) (fun e_ => (hk_.1.1.2.2.2.2.1) e_))) (fun k_ hk_ => ⟨hk_.1.1.1.1, hk_.1.1.1.2.1, hk_.1.1.1.2.2.1, hk_.1.1.1.2.2.2.1, hk_.1.1.1.2.2.2.2.1, hk_.1.1.1.2.2.2.2.2, hk_.1.1.2⟩)); replace HO_14 := sA (Kd.R_mono (ok' := fun k_ => some k_ ≠ (v122 : Value).ownBlock ∧ some k_ ≠ (v125 : Value).ownBlock ∧ some k_ ≠ (v148 : Value).ownBlock ∧ some k_ ≠ (.slice Ao34 t118.length co34 : Value).ownBlock ∧ some k_ ≠ (.slice Ao42 t133.length co42 : Value).ownBlock ∧ some k_ ≠ (.slice Ao53 t144.length co53 : Value).ownBlock ∧ some k_ ≠ (.slice Ao115 t162.length co115 : Value).ownBlock) (Kd.R_keptB ((Kd.R_apart' HO_14.out (Kd.R_typed HO_137001.out) (by decide))) hkp (fun k_ hk_ hs_ => Or.elim hs_ (fun e_ => (hk_.2) e_) (fun e_ => (hk_.1.1.2.2.2.2.1) e_))) (fun k_ hk_ => ⟨hk_.1.1.1.1, hk_.1.1.1.2.1, hk_.1.1.1.2.2.1, hk_.1.1.1.2.2.2.1, hk_.1.1.1.2.2.2.2.1, hk_.1.1.1.2.2.2.2.2, hk_.1.1.2⟩)); replace HO_129001 := sA (Kd.R_mono (ok' := fun k_ => some k_ ≠ (.slice Ao45 t137.length co45 : Value).ownBlock ∧ some k_ ≠ (.slice Ao41 t130.length co41 : Value).ownBlock ∧ some k_ ≠ (.slice Ao52 t141.length co52 : Value).ownBlock ∧ some k_ ≠ (.slice Ao114 t159.length co114 : Value).ownBlock ∧ some k_ ≠ (.slice Ao118 t166.length co118 : Value).ownBlock) (Kd.R_keptB ((Kd.R_apart' HO_129001.out (Kd.R_typed HO_137002.out) (by decide))) hkp (fun k_ hk_ hs_ => Or.elim hs_ (fun e_ => (hk_.1.1.1.2.1) e_) (fun e_ => (hk_.2) e_))) (fun k_ hk_ => ⟨hk_.1.1.1.1.1, hk_.1.1.1.1.2.1, hk_.1.1.1.1.2.2, hk_.1.1.1.2, hk_.1.1.2⟩)); replace HO_129002 := sA (Kd.R_mono (ok' := fun k_ => some k_ ≠ (v122 : Value).ownBlock ∧ some k_ ≠ (v125 : Value).ownBlock ∧ some k_ ≠ (v148 : Value).ownBlock ∧ some k_ ≠ (v151 : Value).ownBlock ∧ some k_ ≠ (.slice Ao42 t133.length co42 : Value).ownBlock ∧ some k_ ≠ (.slice Ao53 t144.length co53 : Value).ownBlock ∧ some k_ ≠ (.slice Ao115 t162.length co115 : Value).ownBlock) (Kd.R_keptB ((Kd.R_apart' HO_129002.out (Kd.R_typed HO_137001.out) (by decide))) hkp (fun k_ hk_ hs_ => Or.elim hs_ (fun e_ => (hk_.2) e_) (fun e_ => (hk_.1.1.2.2.2.2.1) e_))) (fun k_ hk_ => ⟨hk_.1.1.1.1, hk_.1.1.1.2.1, hk_.1.1.1.2.2.1, hk_.1.1.1.2.2.2.1, hk_.1.1.1.2.2.2.2.1, hk_.1.1.1.2.2.2.2.2, hk_.1.1.2⟩)); replace HO_155001 := sA (Kd.R_mono (ok' := fun k_ => some k_ ≠ (.slice Ao45 t137.length co45 : Value).ownBlock ∧ some k_ ≠ (.slice Ao33 t115.length co33 : Value).ownBlock ∧ some k_ ≠ (.slice Ao41 t130.length co41 : Value).ownBlock ∧ some k_ ≠ (.slice Ao114 t159.length co114 : Value).ownBlock ∧ some k_ ≠ (.slice Ao118 t166.length co118 : Value).ownBlock) (Kd.R_keptB ((Kd.R_apart' HO_155001.out (Kd.R_typed HO_137002.out) (by decide))) hkp (fun k_ hk_ hs_ => Or.elim hs_ (fun e_ => (hk_.1.1.1.2.2) e_) (fun e_ => (hk_.2) e_))) (fun k_ hk_ => ⟨hk_.1.1.1.1.1, hk_.1.1.1.1.2.1, hk_.1.1.1.1.2.2, hk_.1.1.1.2, hk_.1.1.2⟩)); replace HO_155002 := sA (Kd.R_mono (ok' := fun k_ => some k_ ≠ (v122 : Value).ownBlock ∧ some k_ ≠ (v125 : Value).ownBlock ∧ some k_ ≠ (v148 : Value).ownBlock ∧ some k_ ≠ (v151 : Value).ownBlock ∧ some k_ ≠ (.slice Ao34 t118.length co34 : Value).ownBlock ∧ some k_ ≠ (.slice Ao42 t133.length co42 : Value).ownBlock ∧ some k_ ≠ (.slice Ao115 t162.length co115 : Value).ownBlock) (Kd.R_keptB ((Kd.R_apart' HO_155002.out (Kd.R_typed HO_137001.out) (by decide))) hkp (fun k_ hk_ hs_ => Or.elim hs_ (fun e_ => (hk_.2) e_) (fun e_ => (hk_.1.1.2.2.2.2.2) e_))) (fun k_ hk_ => ⟨hk_.1.1.1.1, hk_.1.1.1.2.1, hk_.1.1.1.2.2.1, hk_.1.1.1.2.2.2.1, hk_.1.1.1.2.2.2.2.1, hk_.1.1.1.2.2.2.2.2, hk_.1.1.2⟩)); replace BK101 := sA (blk_kept (sB BK101.out) hkp (fun hs_ => Or.elim hs_ (fun e_ => (fun e_ => (Kd.R_ne HO_137001.out BK101.out (by decide)) e_) e_) (fun e_ => (fun e_ => (Kd.R_ne HO_137002.out BK101.out (by decide)) e_) e_))); replace BK128 := sA (blk_kept (sB BK128.out) hkp (fun hs_ => Or.elim hs_ (fun e_ => (fun e_ => (Kd.R_ne HO_137001.out BK128.out (by decide)) e_) e_) (fun e_ => (fun e_ => (Kd.R_ne HO_137002.out BK128.out (by decide)) e_) e_))); replace BK136 := sA (blk_kept (sB BK136.out) hkp (fun hs_ => Or.elim hs_ (fun e_ => (fun e_ => (Kd.R_ne HO_137001.out BK136.out (by decide)) e_) e_) (fun e_ => (fun e_ => (Kd.R_ne HO_137002.out BK136.out (by decide)) e_) e_))); replace BK154 := sA (blk_kept (sB BK154.out) hkp (fun hs_ => Or.elim hs_ (fun e_ => (fun e_ => (Kd.R_ne HO_137001.out BK154.out (by decide)) e_) e_) (fun e_ => (fun e_ => (Kd.R_ne HO_137002.out BK154.out (by decide)) e_) e_))); replace HO161 := sA (Kd.R_mono (ok' := fun k_ => some k_ ≠ (.slice Ao45 t137.length co45 : Value).ownBlock ∧ some k_ ≠ (.slice Ao33 t115.length co33 : Value).ownBlock ∧ some k_ ≠ (.slice Ao41 t130.length co41 : Value).ownBlock ∧ some k_ ≠ (.slice Ao52 t141.length co52 : Value).ownBlock ∧ some k_ ≠ (.slice Ao118 t166.length co118 : Value).ownBlock) (Kd.R_keptB ((Kd.R_apart' HO161.out (Kd.R_typed HO_137002.out) (by decide))) hkp (fun k_ hk_ hs_ => Or.elim hs_ (fun e_ => (hk_.1.1.1.2) e_) (fun e_ => (hk_.2) e_))) (fun k_ hk_ => ⟨hk_.1.1.1.1.1.1.2, hk_.1.1.1.1.1.2, hk_.1.1.1.1.2, hk_.1.1.1.2, hk_.1.1.2⟩)); replace HO164 := sA (Kd.R_mono (ok' := fun k_ => some k_ ≠ (v122 : Value).ownBlock ∧ some k_ ≠ (v125 : Value).ownBlock ∧ some k_ ≠ (v148 : Value).ownBlock ∧ some k_ ≠ (v151 : Value).ownBlock ∧ some k_ ≠ (.slice Ao34 t118.length co34 : Value).ownBlock ∧ some k_ ≠ (.slice Ao42 t133.length co42 : Value).ownBlock ∧ some k_ ≠ (.slice Ao53 t144.length co53 : Value).ownBlock) (Kd.R_keptB ((Kd.R_apart' HO164.out (Kd.R_typed HO_137001.out) (by decide))) hkp (fun k_ hk_ hs_ => Or.elim hs_ (fun e_ => (hk_.2) e_) (fun e_ => (hk_.1.1.2) e_))) (fun k_ hk_ => ⟨hk_.1.1.1.1.1.1.1.1.2, hk_.1.1.1.1.1.1.1.2, hk_.1.1.1.1.1.1.2, hk_.1.1.1.1.1.2, hk_.1.1.1.1.2, hk_.1.1.1.2, hk_.1.1.2⟩)); replace HO_137001 := sA (Kd.R_reok rfl hy0 (fun k_ e_ => HO_137001.out.1 k_ e_)); replace HO168 := sA (Kd.R_mono (ok' := fun k_ => some k_ ≠ (.slice Ao45 t137.length co45 : Value).ownBlock ∧ some k_ ≠ (.slice Ao33 t115.length co33 : Value).ownBlock ∧ some k_ ≠ (.slice Ao41 t130.length co41 : Value).ownBlock ∧ some k_ ≠ (.slice Ao52 t141.length co52 : Value).ownBlock ∧ some k_ ≠ (.slice Ao114 t159.length co114 : Value).ownBlock) (Kd.R_keptB ((Kd.R_apart' HO168.out (Kd.R_typed HO_137002.out) (by decide))) hkp (fun k_ hk_ hs_ => Or.elim hs_ (fun e_ => (hk_.1.1.1.2) e_) (fun e_ => (hk_.2) e_))) (fun k_ hk_ => ⟨hk_.1.1.1.1.1.1.2, hk_.1.1.1.1.1.2, hk_.1.1.1.1.2, hk_.1.1.1.2, hk_.1.1.2⟩)); replace HO_137002 := sA (Kd.R_reok rfl hy1 (fun k_ e_ => HO_137002.out.1 k_ e_)); replace HB := sA (hb); (try clear hb); (try clear hkp); (try clear hy0); (try clear hy1)) | ((with_reducible refine gate_callee (f := 25) rfl ?_); refine goesL_ (some 91) rfl rfl Try.func25 (by kernel_rfl) rfl #[.slice Ao45 t137.length co45, .int .i64 t170] rfl sG ?_; (with_reducible refine (laws_markSpanS.calls kj18 (fun k_ => some k_ = (.slice Ao45 t137.length co45 : Value).ownBlock) (.slice Ao45 t137.length co45) t137 t170 t173 t174 w _ ?side1 ?side2 A110.out).mono ?_); (case side1 => repeat (first | (with_reducible first | exact HB.out | apply sLA | apply sLN | apply sLD | refine sLS ?_ GE101.out | refine sLS ?_ GE128.out | refine sLS ?_ GE136.out | refine sLS ?_ GE154.out) | exact HB.out)); (case side2 => exact Kd.R_tight rfl HO_11.out); rintro e w125 ⟨rfl, hy0, hb, hkp⟩; refine ⟨_, rfl, ?_⟩; replace HO_7 := sA (Kd.R_mono (ok' := fun k_ => some k_ ≠ (v125 : Value).ownBlock ∧ some k_ ≠ (v148 : Value).ownBlock ∧ some k_ ≠ (v151 : Value).ownBlock ∧ some k_ ≠ (.slice Ao34 t118.length co34 : Value).ownBlock ∧ some k_ ≠ (.slice Ao42 t133.length co42 : Value).ownBlock ∧ some k_ ≠ (.slice Ao53 t144.length co53 : Value).ownBlock ∧ some k_ ≠ (.slice Ao115 t162.length co115 : Value).ownBlock) (Kd.R_keptB ((Kd.R_apart' HO_7.out (Kd.R_typed HO_11.out) (by decide))) hkp (fun k_ hk_ hs_ => (hk_.2) hs_)) (fun k_ hk_ => ⟨hk_.1.1.1, hk_.1.1.2.1, hk_.1.1.2.2.1, hk_.1.1.2.2.2.1, hk_.1.1.2.2.2.2.1, hk_.1.1.2.2.2.2.2.1, hk_.1.1.2.2.2.2.2.2⟩)); replace HO_8 := sA (Kd.R_mono (ok' := fun k_ => some k_ ≠ (v122 : Value).ownBlock ∧ some k_ ≠ (v148 : Value).ownBlock ∧ some k_ ≠ (v151 : Value).ownBlock ∧ some k_ ≠ (.slice Ao34 t118.length co34 : Value).ownBlock ∧ some k_ ≠ (.slice Ao42 t133.length co42 : Value).ownBlock ∧ some k_ ≠ (.slice Ao53 t144.length co53 : Value).ownBlock ∧ some k_ ≠ (.slice Ao115 t162.length co115 : Value).ownBlock) (Kd.R_keptB ((Kd.R_apart' HO_8.out (Kd.R_typed HO_11.out) (by decide))) hkp (fun k_ hk_ hs_ => (hk_.2) hs_)) (fun k_ hk_ => ⟨hk_.1.1.1, hk_.1.1.2.1, hk_.1.1.2.2.1, hk_.1.1.2.2.2.1, hk_.1.1.2.2.2.2.1, hk_.1.1.2.2.2.2.2.1, hk_.1.1.2.2.2.2.2.2⟩)); replace HO_13 := sA (Kd.R_mono (ok' := fun k_ => some k_ ≠ (v122 : Value).ownBlock ∧ some k_ ≠ (v125 : Value).ownBlock ∧ some k_ ≠ (v151 : Value).ownBlock ∧ some k_ ≠ (.slice Ao34 t118.length co34 : Value).ownBlock ∧ some k_ ≠ (.slice Ao42 t133.length co42 : Value).ownBlock ∧ some k_ ≠ (.slice Ao53 t144.length co53 : Value).ownBlock ∧ some k_ ≠ (.slice Ao115 t162.length co115 : Value).ownBlock) (Kd.R_keptB ((Kd.R_apart' HO_13.out (Kd.R_typed HO_11.out) (by decide))) hkp (fun k_ hk_ hs_ => (hk_.2) hs_)) (fun k_ hk_ => ⟨hk_.1.1.1, hk_.1.1.2.1, hk_.1.1.2.2.1, hk_.1.1.2.2.2.1, hk_.1.1.2.2.2.2.1, hk_.1.1.2.2.2.2.2.1, hk_.1.1.2.2.2.2.2.2⟩)); replace HO_14 := sA (Kd.R_mono (ok' := fun k_ => some k_ ≠ (v122 : Value).ownBlock ∧ some k_ ≠ (v125 : Value).ownBlock ∧ some k_ ≠ (v148 : Value).ownBlock ∧ some k_ ≠ (.slice Ao34 t118.length co34 : Value).ownBlock ∧ some k_ ≠ (.slice Ao42 t133.length co42 : Value).ownBlock ∧ some k_ ≠ (.slice Ao53 t144.length co53 : Value).ownBlock ∧ some k_ ≠ (.slice Ao115 t162.length co115 : Value).ownBlock) (Kd.R_keptB ((Kd.R_apart' HO_14.out (Kd.R_typed HO_11.out) (by decide))) hkp (fun k_ hk_ hs_ => (hk_.2) hs_)) (fun k_ hk_ => ⟨hk_.1.1.1, hk_.1.1.2.1, hk_.1.1.2.2.1, hk_.1.1.2.2.2.1, hk_.1.1.2.2.2.2.1, hk_.1.1.2.2.2.2.2.1, hk_.1.1.2.2.2.2.2.2⟩)); replace HO_129001 := sA (Kd.R_mono (ok' := fun k_ => some k_ ≠ (.slice Ao45 t137.length co45 : Value).ownBlock ∧ some k_ ≠ (.slice Ao41 t130.length co41 : Value).ownBlock ∧ some k_ ≠ (.slice Ao52 t141.length co52 : Value).ownBlock ∧ some k_ ≠ (.slice Ao114 t159.length co114 : Value).ownBlock ∧ some k_ ≠ (.slice Ao118 t166.length co118 : Value).ownBlock) (Kd.R_keptB (HO_129001.out) hkp (fun k_ hk_ hs_ => (hk_.1) hs_)) (fun k_ hk_ => ⟨hk_.1.1, hk_.1.2.1, hk_.1.2.2.1, hk_.1.2.2.2.1, hk_.1.2.2.2.2⟩)); replace HO_129002 := sA (Kd.R_mono (ok' := fun k_ => some k_ ≠ (v122 : Value).ownBlock ∧ some k_ ≠ (v125 : Value).ownBlock ∧ some k_ ≠ (v148 : Value).ownBlock ∧ some k_ ≠ (v151 : Value).ownBlock ∧ some k_ ≠ (.slice Ao42 t133.length co42 : Value).ownBlock ∧ some k_ ≠ (.slice Ao53 t144.length co53 : Value).ownBlock ∧ some k_ ≠ (.slice Ao115 t162.length co115 : Value).ownBlock) (Kd.R_keptB ((Kd.R_apart' HO_129002.out (Kd.R_typed HO_11.out) (by decide))) hkp (fun k_ hk_ hs_ => (hk_.2) hs_)) (fun k_ hk_ => ⟨hk_.1.1.1, hk_.1.1.2.1, hk_.1.1.2.2.1, hk_.1.1.2.2.2.1, hk_.1.1.2.2.2.2.1, hk_.1.1.2.2.2.2.2.1, hk_.1.1.2.2.2.2.2.2⟩)); replace HO_137001 := sA (Kd.R_mono (ok' := fun k_ => some k_ ≠ (.slice Ao45 t137.length co45 : Value).ownBlock ∧ some k_ ≠ (.slice Ao33 t115.length co33 : Value).ownBlock ∧ some k_ ≠ (.slice Ao52 t141.length co52 : Value).ownBlock ∧ some k_ ≠ (.slice Ao114 t159.length co114 : Value).ownBlock ∧ some k_ ≠ (.slice Ao118 t166.length co118 : Value).ownBlock) (Kd.R_keptB (HO_137001.out) hkp (fun k_ hk_ hs_ => (hk_.1.1.1) hs_)) (fun k_ hk_ => ⟨hk_.1.1.1.1, hk_.1.1.1.2.1, hk_.1.1.1.2.2, hk_.1.1.2, hk_.1.2⟩)); replace HO_137002 := sA (Kd.R_mono (ok' := fun k_ => some k_ ≠ (v122 : Value).ownBlock ∧ some k_ ≠ (v125 : Value).ownBlock ∧ some k_ ≠ (v148 : Value).ownBlock ∧ some k_ ≠ (v151 : Value).ownBlock ∧ some k_ ≠ (.slice Ao34 t118.length co34 : Value).ownBlock ∧ some k_ ≠ (.slice Ao53 t144.length co53 : Value).ownBlock ∧ some k_ ≠ (.slice Ao115 t162.length co115 : Value).ownBlock) (Kd.R_keptB ((Kd.R_apart' HO_137002.out (Kd.R_typed HO_11.out) (by decide))) hkp (fun k_ hk_ hs_ => (hk_.2) hs_)) (fun k_ hk_ => ⟨hk_.1.1.1.1, hk_.1.1.1.2.1, hk_.1.1.1.2.2.1, hk_.1.1.1.2.2.2.1, hk_.1.1.1.2.2.2.2.1, hk_.1.1.1.2.2.2.2.2, hk_.1.1.2⟩)); replace HO_155001 := sA (Kd.R_mono (ok' := fun k_ => some k_ ≠ (.slice Ao45 t137.length co45 : Value).ownBlock ∧ some k_ ≠ (.slice Ao33 t115.length co33 : Value).ownBlock ∧ some k_ ≠ (.slice Ao41 t130.length co41 : Value).ownBlock ∧ some k_ ≠ (.slice Ao114 t159.length co114 : Value).ownBlock ∧ some k_ ≠ (.slice Ao118 t166.length co118 : Value).ownBlock) (Kd.R_keptB (HO_155001.out) hkp (fun k_ hk_ hs_ => (hk_.1) hs_)) (fun k_ hk_ => ⟨hk_.1.1, hk_.1.2.1, hk_.1.2.2.1, hk_.1.2.2.2.1, hk_.1.2.2.2.2⟩)); replace HO_155002 := sA (Kd.R_mono (ok' := fun k_ => some k_ ≠ (v122 : Value).ownBlock ∧ some k_ ≠ (v125 : Value).ownBlock ∧ some k_ ≠ (v148 : Value).ownBlock ∧ some k_ ≠ (v151 : Value).ownBlock ∧ some k_ ≠ (.slice Ao34 t118.length co34 : Value).ownBlock ∧ some k_ ≠ (.slice Ao42 t133.length co42 : Value).ownBlock ∧ some k_ ≠ (.slice Ao115 t162.length co115 : Value).ownBlock) (Kd.R_keptB ((Kd.R_apart' HO_155002.out (Kd.R_typed HO_11.out) (by decide))) hkp (fun k_ hk_ hs_ => (hk_.2) hs_)) (fun k_ hk_ => ⟨hk_.1.1.1, hk_.1.1.2.1, hk_.1.1.2.2.1, hk_.1.1.2.2.2.1, hk_.1.1.2.2.2.2.1, hk_.1.1.2.2.2.2.2.1, hk_.1.1.2.2.2.2.2.2⟩)); replace BK101 := sA (blk_kept (sB BK101.out) hkp (fun hs_ => (fun e_ => (Kd.R_ne HO_11.out BK101.out (by decide)) e_) hs_)); replace BK128 := sA (blk_kept (sB BK128.out) hkp (fun hs_ => (fun e_ => (Kd.R_ne HO_11.out BK128.out (by decide)) e_) hs_)); replace BK136 := sA (blk_kept (sB BK136.out) hkp (fun hs_ => (fun e_ => (Kd.R_ne HO_11.out BK136.out (by decide)) e_) hs_)); replace BK154 := sA (blk_kept (sB BK154.out) hkp (fun hs_ => (fun e_ => (Kd.R_ne HO_11.out BK154.out (by decide)) e_) hs_)); replace HO161 := sA (Kd.R_mono (ok' := fun k_ => some k_ ≠ (.slice Ao45 t137.length co45 : Value).ownBlock ∧ some k_ ≠ (.slice Ao33 t115.length co33 : Value).ownBlock ∧ some k_ ≠ (.slice Ao41 t130.length co41 : Value).ownBlock ∧ some k_ ≠ (.slice Ao52 t141.length co52 : Value).ownBlock ∧ some k_ ≠ (.slice Ao118 t166.length co118 : Value).ownBlock) (Kd.R_keptB (HO161.out) hkp (fun k_ hk_ hs_ => (hk_.1) hs_)) (fun k_ hk_ => ⟨hk_.1.1, hk_.1.2.1, hk_.1.2.2.1, hk_.1.2.2.2.1, hk_.1.2.2.2.2⟩)); replace HO164 := sA (Kd.R_mono (ok' := fun k_ => some k_ ≠ (v122 : Value).ownBlock ∧ some k_ ≠ (v125 : Value).ownBlock ∧ some k_ ≠ (v148 : Value).ownBlock ∧ some k_ ≠ (v151 : Value).ownBlock ∧ some k_ ≠ (.slice Ao34 t118.length co34 : Value).ownBlock ∧ some k_ ≠ (.slice Ao42 t133.length co42 : Value).ownBlock ∧ some k_ ≠ (.slice Ao53 t144.length co53 : Value).ownBlock) (Kd.R_keptB ((Kd.R_apart' HO164.out (Kd.R_typed HO_11.out) (by decide))) hkp (fun k_ hk_ hs_ => (hk_.2) hs_)) (fun k_ hk_ => ⟨hk_.1.1.1, hk_.1.1.2.1, hk_.1.1.2.2.1, hk_.1.1.2.2.2.1, hk_.1.1.2.2.2.2.1, hk_.1.1.2.2.2.2.2.1, hk_.1.1.2.2.2.2.2.2⟩)); replace HO_11 := sA (Kd.R_reok rfl hy0 (fun k_ e_ => HO_11.out.1 k_ e_)); replace HO168 := sA (Kd.R_mono (ok' := fun k_ => some k_ ≠ (.slice Ao45 t137.length co45 : Value).ownBlock ∧ some k_ ≠ (.slice Ao33 t115.length co33 : Value).ownBlock ∧ some k_ ≠ (.slice Ao41 t130.length co41 : Value).ownBlock ∧ some k_ ≠ (.slice Ao52 t141.length co52 : Value).ownBlock ∧ some k_ ≠ (.slice Ao114 t159.length co114 : Value).ownBlock) (Kd.R_keptB (HO168.out) hkp (fun k_ hk_ hs_ => (hk_.1) hs_)) (fun k_ hk_ => ⟨hk_.1.1, hk_.1.2.1, hk_.1.2.2.1, hk_.1.2.2.2.1, hk_.1.2.2.2.2⟩)); replace HB := sA (hb); (try clear hb); (try clear hkp); (try clear hy0)))
        (try simp only [Act.put, sI, sZ, sV])
        go_cut [116] (fun v116 wc => ∃ (kq : Nat) (x116_110 : Bool), v116 = .bool x116_110 ∧ Aside0 (laws_FnExactHearSpans.j1 kq l1 t121 t124 t127 t147 t150 x116_110 a0_0 l0_1 l0_2 t114 t115 t118 t140 t141 t144 = some r) ∧ Aside0 (kq ≤ kj18) ∧ Aside0 (Kd.R (Kd.int .i64) 3 wc w.heap.size (fun k_ => some k_ ≠ (v125 : Value).ownBlock ∧ some k_ ≠ (v148 : Value).ownBlock ∧ some k_ ≠ (v151 : Value).ownBlock ∧ some k_ ≠ ((.slice Ao34 t118.length co34) : Value).ownBlock ∧ some k_ ≠ ((.slice Ao42 t133.length co42) : Value).ownBlock ∧ some k_ ≠ ((.slice Ao53 t144.length co53) : Value).ownBlock) v122 t121) ∧ Aside0 (Kd.R (Kd.int .i64) 3 wc w.heap.size (fun k_ => some k_ ≠ (v122 : Value).ownBlock ∧ some k_ ≠ (v148 : Value).ownBlock ∧ some k_ ≠ (v151 : Value).ownBlock ∧ some k_ ≠ ((.slice Ao34 t118.length co34) : Value).ownBlock ∧ some k_ ≠ ((.slice Ao42 t133.length co42) : Value).ownBlock ∧ some k_ ≠ ((.slice Ao53 t144.length co53) : Value).ownBlock) v125 t124) ∧ Aside0 (Kd.R (Kd.int .i64) 3 wc w.heap.size (fun k_ => some k_ ≠ (v122 : Value).ownBlock ∧ some k_ ≠ (v125 : Value).ownBlock ∧ some k_ ≠ (v151 : Value).ownBlock ∧ some k_ ≠ ((.slice Ao34 t118.length co34) : Value).ownBlock ∧ some k_ ≠ ((.slice Ao42 t133.length co42) : Value).ownBlock ∧ some k_ ≠ ((.slice Ao53 t144.length co53) : Value).ownBlock) v148 t147) ∧ Aside0 (Kd.R (Kd.int .i64) 3 wc w.heap.size (fun k_ => some k_ ≠ (v122 : Value).ownBlock ∧ some k_ ≠ (v125 : Value).ownBlock ∧ some k_ ≠ (v148 : Value).ownBlock ∧ some k_ ≠ ((.slice Ao34 t118.length co34) : Value).ownBlock ∧ some k_ ≠ ((.slice Ao42 t133.length co42) : Value).ownBlock ∧ some k_ ≠ ((.slice Ao53 t144.length co53) : Value).ownBlock) v151 t150) ∧ Aside0 (Kd.R k59 59 wc w.heap.size (fun k_ => some k_ ≠ ((.slice Ao41 t130.length co41) : Value).ownBlock ∧ some k_ ≠ ((.slice Ao52 t141.length co52) : Value).ownBlock) (.slice Ao33 t115.length co33) t115) ∧ Aside0 (Kd.R (Kd.int .i64) 3 wc w.heap.size (fun k_ => some k_ ≠ (v122 : Value).ownBlock ∧ some k_ ≠ (v125 : Value).ownBlock ∧ some k_ ≠ (v148 : Value).ownBlock ∧ some k_ ≠ (v151 : Value).ownBlock ∧ some k_ ≠ ((.slice Ao42 t133.length co42) : Value).ownBlock ∧ some k_ ≠ ((.slice Ao53 t144.length co53) : Value).ownBlock) (.slice Ao34 t118.length co34) t118) ∧ Aside0 (Kd.R k59 59 wc w.heap.size (fun k_ => some k_ ≠ ((.slice Ao33 t115.length co33) : Value).ownBlock ∧ some k_ ≠ ((.slice Ao52 t141.length co52) : Value).ownBlock) (.slice Ao41 t130.length co41) t171) ∧ Aside0 (Kd.R (Kd.int .i64) 3 wc w.heap.size (fun k_ => some k_ ≠ (v122 : Value).ownBlock ∧ some k_ ≠ (v125 : Value).ownBlock ∧ some k_ ≠ (v148 : Value).ownBlock ∧ some k_ ≠ (v151 : Value).ownBlock ∧ some k_ ≠ ((.slice Ao34 t118.length co34) : Value).ownBlock ∧ some k_ ≠ ((.slice Ao53 t144.length co53) : Value).ownBlock) (.slice Ao42 t133.length co42) t172) ∧ Aside0 (Kd.R k59 59 wc w.heap.size (fun k_ => some k_ ≠ ((.slice Ao33 t115.length co33) : Value).ownBlock ∧ some k_ ≠ ((.slice Ao41 t130.length co41) : Value).ownBlock) (.slice Ao52 t141.length co52) t141) ∧ Aside0 (Kd.R (Kd.int .i64) 3 wc w.heap.size (fun k_ => some k_ ≠ (v122 : Value).ownBlock ∧ some k_ ≠ (v125 : Value).ownBlock ∧ some k_ ≠ (v148 : Value).ownBlock ∧ some k_ ≠ (v151 : Value).ownBlock ∧ some k_ ≠ ((.slice Ao34 t118.length co34) : Value).ownBlock ∧ some k_ ≠ ((.slice Ao42 t133.length co42) : Value).ownBlock) (.slice Ao53 t144.length co53) t144) ∧ Aside0 (wc.heap[gb101]? = some (.cells #[.int .i64 a0_0, (.slice A0_1 l0_1.length c0_1), (.slice A0_2 l0_2.length c0_2)] 25 (0, 0))) ∧ Aside0 (wc.heap[gb128]? = some (.cells #[.int .i64 t114, (.slice Ao33 t115.length co33), (.slice Ao34 t118.length co34)] 31 (0, 0))) ∧ Aside0 (wc.heap[gb136]? = some (.cells #[.int .i64 t129, (.slice Ao41 t130.length co41), (.slice Ao42 t133.length co42)] 31 (0, 0))) ∧ Aside0 (wc.heap[gb154]? = some (.cells #[.int .i64 t140, (.slice Ao52 t141.length co52), (.slice Ao53 t144.length co53)] 31 (0, 0))) ∧ Aside0 (Below w.heap.size w wc))
        case first =>
         have H := HC111.out
         clear HC111
         by_cases c126 : t173 < 0
         ·rw [if_pos c126] at H
          have c126b0 : decide (t173 < 0) = true := decide_eq_true c126
          clear c126
          (first | rw [c126b0] | (simp only [i64_w, i32_w]; rw [c126b0]) | skip)
          exact False.elim (by first | exact laws_FnExactHearSpans.j0_true hr_ H | exact laws_FnExactHearSpans.j1_true hr_ H | exact laws_FnExactHearSpans.j2_true hr_ H)
         ·rw [if_neg c126] at H
          have c126b0 : decide (t173 < 0) = false := decide_eq_false c126
          clear c126
          (first | rw [c126b0] | (simp only [i64_w, i32_w]; rw [c126b0]) | skip)
          obtain ⟨t175, A127, H⟩ := sN H
          by_cases c128 : t175 = true
          ·subst c128
           replace H := sY H
           obtain ⟨t176, A129, H⟩ := sN H
           by_cases c130 : t176 = true
           ·subst c130
            replace H := sY H
            obtain ⟨t177, A131, H⟩ := sN H
            by_cases c132 : t177 = true
            ·subst c132
             replace H := sY H
             have H' := sA H
             clear H
             have := NB154_101.out
             have := NB101_154.out
             have := NB154_128.out
             have := NB128_154.out
             have := NB154_136.out
             have := NB136_154.out
             obtain ⟨_, _, _, _, _, _⟩ := sD3 BK154
             have := NB128_101.out
             have := NB101_128.out
             have := NB128_136.out
             have := NB136_128.out
             obtain ⟨_, _, _, _, _, _⟩ := sD3 BK128
             go_wp2_with (first | (go_at_call 13; (with_reducible refine (laws_eqSender.calls kj18 t140 _ _ t141 _ _ t144 t114 _ _ t115 _ _ t118 true _ ?side1 ?side2 ?side3 ?side4 ?side5 ?side6 ?side7 ?side8 A127.out).mono ?_); (case side1 => exact sK (Kd.R_reads' HO_155001.out).2.2); (case side2 => exact (Kd.R_reads' HO_155001.out).2.1); (case side3 => exact sK (Kd.R_reads' HO_155002.out).2.2); (case side4 => exact (Kd.R_reads' HO_155002.out).2.1); (case side5 => exact sK (Kd.R_reads' HO_129001.out).2.2); (case side6 => exact (Kd.R_reads' HO_129001.out).2.1); (case side7 => exact sK (Kd.R_reads' HO_129002.out).2.2); (case side8 => exact (Kd.R_reads' HO_129002.out).2.1); rintro e w140 ⟨rfl, hb⟩; replace HO_7 := sS HO_7 hb; replace HO_8 := sS HO_8 hb; replace HO_11 := sS HO_11 hb; replace HO_13 := sS HO_13 hb; replace HO_14 := sS HO_14 hb; replace HO_129001 := sS HO_129001 hb; replace HO_129002 := sS HO_129002 hb; replace HO_137001 := sS HO_137001 hb; replace HO_137002 := sS HO_137002 hb; replace HO_155001 := sS HO_155001 hb; replace HO_155002 := sS HO_155002 hb; replace HO161 := sS HO161 hb; replace HO164 := sS HO164 hb; replace HO168 := sS HO168 hb; replace BK101 := sJ BK101 hb; replace BK128 := sJ BK128 hb; replace BK136 := sJ BK136 hb; replace BK154 := sJ BK154 hb; replace HB := sA (below_step sH hb); (try clear hb); (try clear hb2); (try clear hk); (try clear hi); obtain ⟨Ao141, co141, eo141⟩ := Kd.R_slice HO_13.out; subst eo141; obtain ⟨Ao142, co142, eo142⟩ := Kd.R_slice HO_7.out; subst eo142) | (go_at_call 12; (with_reducible refine (laws_eqIntS.calls kj18 _ _ t147 _ _ t121 true _ ?side1 ?side2 ?side3 ?side4 A129.out).mono ?_); (case side1 => exact sK (Kd.R_reads' HO_13.out).2.2); (case side2 => exact (Kd.R_reads' HO_13.out).2.1); (case side3 => exact sK (Kd.R_reads' HO_7.out).2.2); (case side4 => exact (Kd.R_reads' HO_7.out).2.1); rintro e w' ⟨rfl, ⟨nd, rfl⟩⟩; obtain ⟨Ao143, co143, eo143⟩ := Kd.R_slice HO_14.out; subst eo143; obtain ⟨Ao144, co144, eo144⟩ := Kd.R_slice HO_8.out; subst eo144) | (go_at_call 12; (with_reducible refine (laws_eqIntS.calls kj18 _ _ t150 _ _ t124 true _ ?side1 ?side2 ?side3 ?side4 A131.out).mono ?_); (case side1 => exact sK (Kd.R_reads' HO_14.out).2.2); (case side2 => exact (Kd.R_reads' HO_14.out).2.1); (case side3 => exact sK (Kd.R_reads' HO_8.out).2.2); (case side4 => exact (Kd.R_reads' HO_8.out).2.1); rintro e w' ⟨rfl, ⟨nd, rfl⟩⟩))
             go_meet
             case rel => exact ⟨_, ((t153 != t127)), (by first | rfl | (simp; done) | (simp [*]; done)), H', ⟨by have := HJ18.out; first | omega | exact Nat.le_refl _⟩, ⟨by (with_reducible repeat (first | apply Kd.R_alloc | apply Kd.R_drewN | apply Kd.R_drew)); exact Kd.R_mono HO_7.out (fun _ hk => by first | exact ⟨hk.1, ⟨hk.2.1, ⟨hk.2.2.1, ⟨hk.2.2.2.1, ⟨hk.2.2.2.2.1, hk.2.2.2.2.2.1⟩⟩⟩⟩⟩ | (simp only [ne_eq] at hk ⊢; simp only [hk, not_false_eq_true, and_self]))⟩, ⟨by (with_reducible repeat (first | apply Kd.R_alloc | apply Kd.R_drewN | apply Kd.R_drew)); exact Kd.R_mono HO_8.out (fun _ hk => by first | exact ⟨hk.1, ⟨hk.2.1, ⟨hk.2.2.1, ⟨hk.2.2.2.1, ⟨hk.2.2.2.2.1, hk.2.2.2.2.2.1⟩⟩⟩⟩⟩ | (simp only [ne_eq] at hk ⊢; simp only [hk, not_false_eq_true, and_self]))⟩, ⟨by (with_reducible repeat (first | apply Kd.R_alloc | apply Kd.R_drewN | apply Kd.R_drew)); exact Kd.R_mono HO_13.out (fun _ hk => by first | exact ⟨hk.1, ⟨hk.2.1, ⟨hk.2.2.1, ⟨hk.2.2.2.1, ⟨hk.2.2.2.2.1, hk.2.2.2.2.2.1⟩⟩⟩⟩⟩ | (simp only [ne_eq] at hk ⊢; simp only [hk, not_false_eq_true, and_self]))⟩, ⟨by (with_reducible repeat (first | apply Kd.R_alloc | apply Kd.R_drewN | apply Kd.R_drew)); exact Kd.R_mono HO_14.out (fun _ hk => by first | exact ⟨hk.1, ⟨hk.2.1, ⟨hk.2.2.1, ⟨hk.2.2.2.1, ⟨hk.2.2.2.2.1, hk.2.2.2.2.2.1⟩⟩⟩⟩⟩ | (simp only [ne_eq] at hk ⊢; simp only [hk, not_false_eq_true, and_self]))⟩, ⟨by (with_reducible repeat (first | apply Kd.R_alloc | apply Kd.R_drewN | apply Kd.R_drew)); exact Kd.R_mono HO_129001.out (fun _ hk => by first | exact ⟨hk.2.1, hk.2.2.1⟩ | (simp only [ne_eq] at hk ⊢; simp only [hk, not_false_eq_true, and_self]))⟩, ⟨by (with_reducible repeat (first | apply Kd.R_alloc | apply Kd.R_drewN | apply Kd.R_drew)); exact Kd.R_mono HO_129002.out (fun _ hk => by first | exact ⟨hk.1, ⟨hk.2.1, ⟨hk.2.2.1, ⟨hk.2.2.2.1, ⟨hk.2.2.2.2.1, hk.2.2.2.2.2.1⟩⟩⟩⟩⟩ | (simp only [ne_eq] at hk ⊢; simp only [hk, not_false_eq_true, and_self]))⟩, ⟨by (with_reducible repeat (first | apply Kd.R_alloc | apply Kd.R_drewN | apply Kd.R_drew)); exact Kd.R_mono HO_137001.out (fun _ hk => by first | exact ⟨hk.2.1, hk.2.2.1⟩ | (simp only [ne_eq] at hk ⊢; simp only [hk, not_false_eq_true, and_self]))⟩, ⟨by (with_reducible repeat (first | apply Kd.R_alloc | apply Kd.R_drewN | apply Kd.R_drew)); exact Kd.R_mono HO_137002.out (fun _ hk => by first | exact ⟨hk.1, ⟨hk.2.1, ⟨hk.2.2.1, ⟨hk.2.2.2.1, ⟨hk.2.2.2.2.1, hk.2.2.2.2.2.1⟩⟩⟩⟩⟩ | (simp only [ne_eq] at hk ⊢; simp only [hk, not_false_eq_true, and_self]))⟩, ⟨by (with_reducible repeat (first | apply Kd.R_alloc | apply Kd.R_drewN | apply Kd.R_drew)); exact Kd.R_mono HO_155001.out (fun _ hk => by first | exact ⟨hk.2.1, hk.2.2.1⟩ | (simp only [ne_eq] at hk ⊢; simp only [hk, not_false_eq_true, and_self]))⟩, ⟨by (with_reducible repeat (first | apply Kd.R_alloc | apply Kd.R_drewN | apply Kd.R_drew)); exact Kd.R_mono HO_155002.out (fun _ hk => by first | exact ⟨hk.1, ⟨hk.2.1, ⟨hk.2.2.1, ⟨hk.2.2.2.1, ⟨hk.2.2.2.2.1, hk.2.2.2.2.2.1⟩⟩⟩⟩⟩ | (simp only [ne_eq] at hk ⊢; simp only [hk, not_false_eq_true, and_self]))⟩, ⟨sB BK101.out⟩, ⟨sB BK128.out⟩, ⟨sB BK136.out⟩, ⟨sB BK154.out⟩, ⟨sH⟩⟩
            ·replace c132 := Bool.eq_false_iff.mpr c132
             subst c132
             replace H := sX H
             exact False.elim (by first | exact laws_FnExactHearSpans.j0_true hr_ H | exact laws_FnExactHearSpans.j1_true hr_ H | exact laws_FnExactHearSpans.j2_true hr_ H)
           ·replace c130 := Bool.eq_false_iff.mpr c130
            subst c130
            replace H := sX H
            exact False.elim (by first | exact laws_FnExactHearSpans.j0_true hr_ H | exact laws_FnExactHearSpans.j1_true hr_ H | exact laws_FnExactHearSpans.j2_true hr_ H)
          ·replace c128 := Bool.eq_false_iff.mpr c128
           subst c128
           replace H := sX H
           exact False.elim (by first | exact laws_FnExactHearSpans.j0_true hr_ H | exact laws_FnExactHearSpans.j1_true hr_ H | exact laws_FnExactHearSpans.j2_true hr_ H)
        case rest =>
         clear HC111
         (try clear c1); (try clear c2); (try clear p2); (try clear c7); (try clear c8); (try clear c9); (try clear c10); (try clear c12); (try clear c13); (try clear c14); (try clear c15); (try clear c16); (try clear c17); (try clear c22); (try clear c24); (try clear c25); (try clear c72); (try clear c73); (try clear c74); (try clear c76); (try clear c77); (try clear c84); (try clear c85); (try clear c86); (try clear c88); (try clear c89); (try clear c94); (try clear c95); (try clear c96); (try clear c98); (try clear c99); (try clear c102); (try clear c105); (try clear c108); (try clear c120); (try clear c121); (try clear c122); (try clear c126); (try clear c126b0); (try clear c128); (try clear c130); (try clear c132); (try clear c133); (try clear c134); (try clear c135); (try clear c137); (try clear c138); (try clear c145); (try clear c146); (try clear c147); (try clear c149); (try clear c150); (try clear c157); (try clear c158); (try clear c159); (try clear c161); (try clear c162); (try clear c167); (try clear c168); (try clear c169); (try clear c171); (try clear c172)
         obtain ⟨kq, x116_110, rfl, HA, HJ110, HO_7, HO_8, HO_13, HO_14, HO_129001, HO_129002, HO_137001, HO_137002, HO_155001, HO_155002, BK101, BK128, BK136, BK154, HB⟩ := hcut
         have hl137001_110 := (Kd.R_reads' HO_137001.out).1
         rw [hl137001_110] at HO_137001
         (try simp only [hl137001_110])
         (try simp only [hl137001_110] at BK101)
         (try simp only [hl137001_110] at BK128)
         (try simp only [hl137001_110] at BK136)
         (try simp only [hl137001_110] at BK154)
         (try simp only [hl137001_110] at HO_7)
         (try simp only [hl137001_110] at HO_8)
         (try simp only [hl137001_110] at HO_13)
         (try simp only [hl137001_110] at HO_14)
         (try simp only [hl137001_110] at HO_129001)
         (try simp only [hl137001_110] at HO_129002)
         (try simp only [hl137001_110] at HO_137002)
         (try simp only [hl137001_110] at HO_155001)
         (try simp only [hl137001_110] at HO_155002)
         have hl137002_110 := (Kd.R_reads' HO_137002.out).1
         rw [hl137002_110] at HO_137002
         (try simp only [hl137002_110])
         (try simp only [hl137002_110] at BK101)
         (try simp only [hl137002_110] at BK128)
         (try simp only [hl137002_110] at BK136)
         (try simp only [hl137002_110] at BK154)
         (try simp only [hl137002_110] at HO_7)
         (try simp only [hl137002_110] at HO_8)
         (try simp only [hl137002_110] at HO_13)
         (try simp only [hl137002_110] at HO_14)
         (try simp only [hl137002_110] at HO_129001)
         (try simp only [hl137002_110] at HO_129002)
         (try simp only [hl137002_110] at HO_137001)
         (try simp only [hl137002_110] at HO_155001)
         (try simp only [hl137002_110] at HO_155002)
         cases kq with
         | zero => exact absurd HA.out (by simp [laws_FnExactHearSpans.j1])
         | succ kj110 =>
          have H := HA.out
          clear HA
          simp only [laws_FnExactHearSpans.j1] at H
          by_cases c175 : x116_110 = true
          ·subst c175
           replace H := sY H
           exact absurd (hr_.symm.trans (Option.some.inj H).symm) (by decide)
          ·replace c175 := Bool.eq_false_iff.mpr c175
           subst c175
           replace H := sX H
           obtain ⟨⟨t178, t179, t180⟩, A176, H⟩ := sN H
           (try dsimp only at H)
           obtain ⟨⟨t181, t182⟩, A177, H⟩ := sN H
           (try dsimp only at H)
           obtain ⟨⟨t183, t184⟩, A178, H⟩ := sN H
           (try dsimp only at H)
           obtain ⟨t185, A179, H⟩ := sN H
           by_cases c180 : t185 < 0
           ·rw [if_pos c180] at H
            have c180b0 : decide (t185 < 0) = true := decide_eq_true c180
            clear c180
            exact absurd (hr_.symm.trans (Option.some.inj H).symm) (by decide)
           ·rw [if_neg c180] at H
            have c180b0 : decide (t185 < 0) = false := decide_eq_false c180
            clear c180
            obtain ⟨t186, A192, H⟩ := sN H
            by_cases c193 : t186 < 0
            ·rw [if_pos c193] at H
             have c193b0 : decide (t186 < 0) = true := decide_eq_true c193
             clear c193
             exact absurd (hr_.symm.trans (Option.some.inj H).symm) (by decide)
            ·rw [if_neg c193] at H
             have c193b0 : decide (t186 < 0) = false := decide_eq_false c193
             clear c193
             obtain ⟨t187, A205, H⟩ := sN H
             by_cases c206 : t187 < 0
             ·rw [if_pos c206] at H
              have c206b0 : decide (t187 < 0) = true := decide_eq_true c206
              clear c206
              exact absurd (hr_.symm.trans (Option.some.inj H).symm) (by decide)
             ·rw [if_neg c206] at H
              have c206b0 : decide (t187 < 0) = false := decide_eq_false c206
              clear c206
              by_cases c218 : t187 = t183
              ·rw [if_pos c218] at H
               have c218b0 : (t187 == t183) = true := beq_iff_eq.mpr c218
               have c218b1 : (t187 != t183) = false := bne_eq_false_iff_eq.mpr c218
               clear c218
               obtain ⟨⟨t188, t189, t192⟩, A219, H⟩ := sN H
               (try dsimp only at H)
               obtain ⟨t195, A220, H⟩ := sN H
               obtain ⟨⟨t198, t199, t202, t205, t208, t211⟩, A221, H⟩ := sN H
               (try dsimp only at H)
               have HC222 := sA H
               clear H
               have := NB154_101.out
               have := NB101_154.out
               have := NB154_128.out
               have := NB128_154.out
               have := NB154_136.out
               have := NB136_154.out
               obtain ⟨_, _, _, _, _, _⟩ := sD3 BK154
               go_upto_region 40 with (first | ((with_reducible refine gate_callee (f := 14) rfl ?_); refine goesL_ (some 119) rfl rfl Try.func14 (by kernel_rfl) rfl #[.agg #[.int .i64 t140, .slice Ao52 t141.length co52, .slice Ao53 t144.length co53], .int .i64 1] rfl sG ?_; (with_reducible refine (laws_markSender.calls kj110 t140 (fun k_ => some k_ = (.slice Ao52 t141.length co52 : Value).ownBlock) (.slice Ao52 t141.length co52) t141 (fun k_ => some k_ = (.slice Ao53 t144.length co53 : Value).ownBlock) (.slice Ao53 t144.length co53) t144 1 t178 t179 t180 w _ ?side1 ?side2 ?side3 A176.out).mono ?_); (case side1 => repeat (first | (with_reducible first | exact HB.out | apply sLA | apply sLN | apply sLD | refine sLS ?_ GE101.out | refine sLS ?_ GE128.out | refine sLS ?_ GE136.out | refine sLS ?_ GE154.out) | exact HB.out)); (case side2 => exact Kd.R_tight rfl HO_155001.out); (case side3 => exact Kd.R_tight rfl HO_155002.out); rintro e w227 ⟨rfl, hy0, hy1, hb, hkp⟩; refine ⟨_, rfl, ?_⟩; replace HO_7 := sA (Kd.R_mono (ok' := fun k_ => some k_ ≠ (v125 : Value).ownBlock ∧ some k_ ≠ (v148 : Value).ownBlock ∧ some k_ ≠ (v151 : Value).ownBlock ∧ some k_ ≠ (.slice Ao34 t118.length co34 : Value).ownBlock ∧ some k_ ≠ (.slice Ao42 t172.length co42 : Value).ownBlock ∧ some k_ ≠ (.slice Ao53 t144.length co53 : Value).ownBlock) (Kd.R_keptB ((Kd.R_apart' HO_7.out (Kd.R_typed HO_155001.out) (by decide))) hkp (fun k_ hk_ hs_ => Or.elim hs_ (fun e_ => (hk_.2) e_) (fun e_ => (hk_.1.2.2.2.2.2) e_))) (fun k_ hk_ => ⟨hk_.1.1.1, hk_.1.1.2.1, hk_.1.1.2.2.1, hk_.1.1.2.2.2.1, hk_.1.1.2.2.2.2.1, hk_.1.1.2.2.2.2.2⟩)); replace HO_8 := sA (Kd.R_mono (ok' := fun k_ => some k_ ≠ (v122 : Value).ownBlock ∧ some k_ ≠ (v148 : Value).ownBlock ∧ some k_ ≠ (v151 : Value).ownBlock ∧ some k_ ≠ (.slice Ao34 t118.length co34 : Value).ownBlock ∧ some k_ ≠ (.slice Ao42 t172.length co42 : Value).ownBlock ∧ some k_ ≠ (.slice Ao53 t144.length co53 : Value).ownBlock) (Kd.R_keptB ((Kd.R_apart' HO_8.out (Kd.R_typed HO_155001.out) (by decide))) hkp (fun k_ hk_ hs_ => Or.elim hs_ (fun e_ => (hk_.2) e_) (fun e_ => (hk_.1.2.2.2.2.2) e_))) (fun k_ hk_ => ⟨hk_.1.1.1, hk_.1.1.2.1, hk_.1.1.2.2.1, hk_.1.1.2.2.2.1, hk_.1.1.2.2.2.2.1, hk_.1.1.2.2.2.2.2⟩)); replace HO_13 := sA (Kd.R_mono (ok' := fun k_ => some k_ ≠ (v122 : Value).ownBlock ∧ some k_ ≠ (v125 : Value).ownBlock ∧ some k_ ≠ (v151 : Value).ownBlock ∧ some k_ ≠ (.slice Ao34 t118.length co34 : Value).ownBlock ∧ some k_ ≠ (.slice Ao42 t172.length co42 : Value).ownBlock ∧ some k_ ≠ (.slice Ao53 t144.length co53 : Value).ownBlock) (Kd.R_keptB ((Kd.R_apart' HO_13.out (Kd.R_typed HO_155001.out) (by decide))) hkp (fun k_ hk_ hs_ => Or.elim hs_ (fun e_ => (hk_.2) e_) (fun e_ => (hk_.1.2.2.2.2.2) e_))) (fun k_ hk_ => ⟨hk_.1.1.1, hk_.1.1.2.1, hk_.1.1.2.2.1, hk_.1.1.2.2.2.1, hk_.1.1.2.2.2.2.1, hk_.1.1.2.2.2.2.2⟩)); replace HO_14 := sA (Kd.R_mono (ok' := fun k_ => some k_ ≠ (v122 : Value).ownBlock ∧ some k_ ≠ (v125 : Value).ownBlock ∧ some k_ ≠ (v148 : Value).ownBlock ∧ some k_ ≠ (.slice Ao34 t118.length co34 : Value).ownBlock ∧ some k_ ≠ (.slice Ao42 t172.length co42 : Value).ownBlock ∧ some k_ ≠ (.slice Ao53 t144.length co53 : Value).ownBlock) (Kd.R_keptB ((Kd.R_apart' HO_14.out (Kd.R_typed HO_155001.out) (by decide))) hkp (fun k_ hk_ hs_ => Or.elim hs_ (fun e_ => (hk_.2) e_) (fun e_ => (hk_.1.2.2.2.2.2) e_))) (fun k_ hk_ => ⟨hk_.1.1.1, hk_.1.1.2.1, hk_.1.1.2.2.1, hk_.1.1.2.2.2.1, hk_.1.1.2.2.2.2.1, hk_.1.1.2.2.2.2.2⟩)); replace HO_129001 := sA (Kd.R_mono (ok' := fun k_ => some k_ ≠ (.slice Ao41 t171.length co41 : Value).ownBlock ∧ some k_ ≠ (.slice Ao52 t141.length co52 : Value).ownBlock) (Kd.R_keptB ((Kd.R_apart' HO_129001.out (Kd.R_typed HO_155002.out) (by decide))) hkp (fun k_ hk_ hs_ => Or.elim hs_ (fun e_ => (hk_.1.2) e_) (fun e_ => (hk_.2) e_))) (fun k_ hk_ => ⟨hk_.1.1.1, hk_.1.1.2⟩)); replace HO_129002 := sA (Kd.R_mono (ok' := fun k_ => some k_ ≠ (v122 : Value).ownBlock ∧ some k_ ≠ (v125 : Value).ownBlock ∧ some k_ ≠ (v148 : Value).ownBlock ∧ some k_ ≠ (v151 : Value).ownBlock ∧ some k_ ≠ (.slice Ao42 t172.length co42 : Value).ownBlock ∧ some k_ ≠ (.slice Ao53 t144.length co53 : Value).ownBlock) (Kd.R_keptB ((Kd.R_apart' HO_129002.out (Kd.R_typed HO_155001.out) (by decide))) hkp (fun k_ hk_ hs_ => Or.elim hs_ (fun e_ => (hk_.2) e_) (fun e_ => (hk_.1.2.2.2.2.2) e_))) (fun k_ hk_ => ⟨hk_.1.1.1, hk_.1.1.2.1, hk_.1.1.2.2.1, hk_.1.1.2.2.2.1, hk_.1.1.2.2.2.2.1, hk_.1.1.2.2.2.2.2⟩)); replace HO_137001 := sA (Kd.R_mono (ok' := fun k_ => some k_ ≠ (.slice Ao33 t115.length co33 : Value).ownBlock ∧ some k_ ≠ (.slice Ao52 t141.length co52 : Value).ownBlock) (Kd.R_keptB ((Kd.R_apart' HO_137001.out (Kd.R_typed HO_155002.out) (by decide))) hkp (fun k_ hk_ hs_ => Or.elim hs_ (fun e_ => (hk_.1.2) e_) (fun e_ => (hk_.2) e_))) (fun k_ hk_ => ⟨hk_.1.1.1, hk_.1.1.2⟩)); replace HO_137002 := sA (Kd.R_mono (ok' := fun k_ => some k_ ≠ (v122 : Value).ownBlock ∧ some k_ ≠ (v125 : Value).ownBlock ∧ some k_ ≠ (v148 : Value).ownBlock ∧ some k_ ≠ (v151 : Value).ownBlock ∧ some k_ ≠ (.slice Ao34 t118.length co34 : Value).ownBlock ∧ some k_ ≠ (.slice Ao53 t144.length co53 : Value).ownBlock) (Kd.R_keptB ((Kd.R_apart' HO_137002.out (Kd.R_typed HO_155001.out) (by decide))) hkp (fun k_ hk_ hs_ => Or.elim hs_ (fun e_ => (hk_.2) e_) (fun e_ => (hk_.1.2.2.2.2.2) e_))) (fun k_ hk_ => ⟨hk_.1.1.1, hk_.1.1.2.1, hk_.1.1.2.2.1, hk_.1.1.2.2.2.1, hk_.1.1.2.2.2.2.1, hk_.1.1.2.2.2.2.2⟩)); replace BK101 := sA (blk_kept (sB BK101.out) hkp (fun hs_ => Or.elim hs_ (fun e_ => (fun e_ => (Kd.R_ne HO_155001.out BK101.out (by decide)) e_) e_) (fun e_ => (fun e_ => (Kd.R_ne HO_155002.out BK101.out (by decide)) e_) e_))); replace BK128 := sA (blk_kept (sB BK128.out) hkp (fun hs_ => Or.elim hs_ (fun e_ => (fun e_ => (Kd.R_ne HO_155001.out BK128.out (by decide)) e_) e_) (fun e_ => (fun e_ => (Kd.R_ne HO_155002.out BK128.out (by decide)) e_) e_))); replace BK136 := sA (blk_kept (sB BK136.out) hkp (fun hs_ => Or.elim hs_ (fun e_ => (fun e_ => (Kd.R_ne HO_155001.out BK136.out (by decide)) e_) e_) (fun e_ => (fun e_ => (Kd.R_ne HO_155002.out BK136.out (by decide)) e_) e_))); replace BK154 := sA (blk_kept (sB BK154.out) hkp (fun hs_ => Or.elim hs_ (fun e_ => (fun e_ => (Kd.R_ne HO_155001.out BK154.out (by decide)) e_) e_) (fun e_ => (fun e_ => (Kd.R_ne HO_155002.out BK154.out (by decide)) e_) e_))); replace HO_155001 := sA (Kd.R_reok rfl hy0 (fun k_ e_ => HO_155001.out.1 k_ e_)); replace HO_155002 := sA (Kd.R_reok rfl hy1 (fun k_ e_ => HO_155002.out.1 k_ e_)); replace HB := sA (hb); (try clear hb); (try clear hkp); (try clear hy0); (try clear hy1); obtain ⟨Ao228, co228, eo228⟩ := Kd.R_slice HO_13.out; subst eo228) | ((with_reducible refine gate_callee (f := 15) rfl ?_); refine goesL_ (some 122) rfl rfl Try.func15 (by kernel_rfl) rfl #[.slice Ao228 t147.length co228, .int .i64 t178] rfl sG ?_; (with_reducible refine (laws_markIntS.calls kj110 (fun k_ => some k_ = (.slice Ao228 t147.length co228 : Value).ownBlock) (.slice Ao228 t147.length co228) t147 t178 t181 t182 w _ ?side1 ?side2 A177.out).mono ?_); (case side1 => repeat (first | (with_reducible first | exact HB.out | apply sLA | apply sLN | apply sLD | refine sLS ?_ GE101.out | refine sLS ?_ GE128.out | refine sLS ?_ GE136.out | refine sLS ?_ GE154.out) | exact HB.out)); (case side2 => exact Kd.R_tight rfl HO_13.out); rintro e w229 ⟨rfl, hy0, hb, hkp⟩; refine ⟨_, rfl, ?_⟩; replace HO_7 := sA (Kd.R_mono (ok' := fun k_ => some k_ ≠ (v125 : Value).ownBlock ∧ some k_ ≠ (.slice Ao228 t147.length co228 : Value).ownBlock ∧ some k_ ≠ (v151 : Value).ownBlock ∧ some k_ ≠ (.slice Ao34 t118.length co34 : Value).ownBlock ∧ some k_ ≠ (.slice Ao42 t172.length co42 : Value).ownBlock ∧ some k_ ≠ (.slice Ao53 t144.length co53 : Value).ownBlock) (Kd.R_keptB (HO_7.out) hkp (fun k_ hk_ hs_ => (hk_.2.1) hs_)) (fun k_ hk_ => ⟨hk_.1.1, hk_.1.2.1, hk_.1.2.2.1, hk_.1.2.2.2.1, hk_.1.2.2.2.2.1, hk_.1.2.2.2.2.2⟩)); replace HO_8 := sA (Kd.R_mono (ok' := fun k_ => some k_ ≠ (v122 : Value).ownBlock ∧ some k_ ≠ (.slice Ao228 t147.length co228 : Value).ownBlock ∧ some k_ ≠ (v151 : Value).ownBlock ∧ some k_ ≠ (.slice Ao34 t118.length co34 : Value).ownBlock ∧ some k_ ≠ (.slice Ao42 t172.length co42 : Value).ownBlock ∧ some k_ ≠ (.slice Ao53 t144.length co53 : Value).ownBlock) (Kd.R_keptB (HO_8.out) hkp (fun k_ hk_ hs_ => (hk_.2.1) hs_)) (fun k_ hk_ => ⟨hk_.1.1, hk_.1.2.1, hk_.1.2.2.1, hk_.1.2.2.2.1, hk_.1.2.2.2.2.1, hk_.1.2.2.2.2.2⟩)); replace HO_14 := sA (Kd.R_mono (ok' := fun k_ => some k_ ≠ (v122 : Value).ownBlock ∧ some k_ ≠ (v125 : Value).ownBlock ∧ some k_ ≠ (.slice Ao228 t147.length co228 : Value).ownBlock ∧ some k_ ≠ (.slice Ao34 t118.length co34 : Value).ownBlock ∧ some k_ ≠ (.slice Ao42 t172.length co42 : Value).ownBlock ∧ some k_ ≠ (.slice Ao53 t144.length co53 : Value).ownBlock) (Kd.R_keptB (HO_14.out) hkp (fun k_ hk_ hs_ => (hk_.2.2.1) hs_)) (fun k_ hk_ => ⟨hk_.1.1, hk_.1.2.1, hk_.1.2.2.1, hk_.1.2.2.2.1, hk_.1.2.2.2.2.1, hk_.1.2.2.2.2.2⟩)); replace HO_129001 := sA (Kd.R_mono (ok' := fun k_ => some k_ ≠ (.slice Ao41 t171.length co41 : Value).ownBlock ∧ some k_ ≠ (.slice Ao52 t141.length co52 : Value).ownBlock) (Kd.R_keptB ((Kd.R_apart' HO_129001.out (Kd.R_typed HO_13.out) (by decide))) hkp (fun k_ hk_ hs_ => (hk_.2) hs_)) (fun k_ hk_ => ⟨hk_.1.1.1, hk_.1.1.2⟩)); replace HO_129002 := sA (Kd.R_mono (ok' := fun k_ => some k_ ≠ (v122 : Value).ownBlock ∧ some k_ ≠ (v125 : Value).ownBlock ∧ some k_ ≠ (.slice Ao228 t147.length co228 : Value).ownBlock ∧ some k_ ≠ (v151 : Value).ownBlock ∧ some k_ ≠ (.slice Ao42 t172.length co42 : Value).ownBlock ∧ some k_ ≠ (.slice Ao53 t144.length co53 : Value).ownBlock) (Kd.R_keptB (HO_129002.out) hkp (fun k_ hk_ hs_ => (hk_.2.2.1) hs_)) (fun k_ hk_ => ⟨hk_.1.1, hk_.1.2.1, hk_.1.2.2.1, hk_.1.2.2.2.1, hk_.1.2.2.2.2.1, hk_.1.2.2.2.2.2⟩)); replace HO_137001 := sA (Kd.R_mono (ok' := fun k_ => some k_ ≠ (.slice Ao33 t115.length co33 : Value).ownBlock ∧ some k_ ≠ (.slice Ao52 t141.length co52 : Value).ownBlock) (Kd.R_keptB ((Kd.R_apart' HO_137001.out (Kd.R_typed HO_13.out) (by decide))) hkp (fun k_ hk_ hs_ => (hk_.2) hs_)) (fun k_ hk_ => ⟨hk_.1.1.1, hk_.1.1.2⟩)); replace HO_137002 := sA (Kd.R_mono (ok' := fun k_ => some k_ ≠ (v122 : Value).ownBlock ∧ some k_ ≠ (v125 : Value).ownBlock ∧ some k_ ≠ (.slice Ao228 t147.length co228 : Value).ownBlock ∧ some k_ ≠ (v151 : Value).ownBlock ∧ some k_ ≠ (.slice Ao34 t118.length co34 : Value).ownBlock ∧ some k_ ≠ (.slice Ao53 t144.length co53 : Value).ownBlock) (Kd.R_keptB (HO_137002.out) hkp (fun k_ hk_ hs_ => (hk_.2.2.1) hs_)) (fun k_ hk_ => ⟨hk_.1.1, hk_.1.2.1, hk_.1.2.2.1, hk_.1.2.2.2.1, hk_.1.2.2.2.2.1, hk_.1.2.2.2.2.2⟩)); replace HO_155001 := sA (Kd.R_mono (ok' := fun k_ => some k_ ≠ (.slice Ao33 t115.length co33 : Value).ownBlock ∧ some k_ ≠ (.slice Ao41 t171.length co41 : Value).ownBlock) (Kd.R_keptB ((Kd.R_apart' HO_155001.out (Kd.R_typed HO_13.out) (by decide))) hkp (fun k_ hk_ hs_ => (hk_.2) hs_)) (fun k_ hk_ => ⟨hk_.1.1.1, hk_.1.1.2⟩)); replace HO_155002 := sA (Kd.R_mono (ok' := fun k_ => some k_ ≠ (v122 : Value).ownBlock ∧ some k_ ≠ (v125 : Value).ownBlock ∧ some k_ ≠ (.slice Ao228 t147.length co228 : Value).ownBlock ∧ some k_ ≠ (v151 : Value).ownBlock ∧ some k_ ≠ (.slice Ao34 t118.length co34 : Value).ownBlock ∧ some k_ ≠ (.slice Ao42 t172.length co42 : Value).ownBlock) (Kd.R_keptB (HO_155002.out) hkp (fun k_ hk_ hs_ => (hk_.2.2.1) hs_)) (fun k_ hk_ => ⟨hk_.1.1, hk_.1.2.1, hk_.1.2.2.1, hk_.1.2.2.2.1, hk_.1.2.2.2.2.1, hk_.1.2.2.2.2.2⟩)); replace BK101 := sA (blk_kept (sB BK101.out) hkp (fun hs_ => (fun e_ => (Kd.R_ne HO_13.out BK101.out (by decide)) e_) hs_)); replace BK128 := sA (blk_kept (sB BK128.out) hkp (fun hs_ => (fun e_ => (Kd.R_ne HO_13.out BK128.out (by decide)) e_) hs_)); replace BK136 := sA (blk_kept (sB BK136.out) hkp (fun hs_ => (fun e_ => (Kd.R_ne HO_13.out BK136.out (by decide)) e_) hs_)); replace BK154 := sA (blk_kept (sB BK154.out) hkp (fun hs_ => (fun e_ => (Kd.R_ne HO_13.out BK154.out (by decide)) e_) hs_)); replace HO_13 := sA (Kd.R_reok rfl hy0 (fun k_ e_ => HO_13.out.1 k_ e_)); replace HB := sA (hb); (try clear hb); (try clear hkp); (try clear hy0); obtain ⟨Ao230, co230, eo230⟩ := Kd.R_slice HO_14.out; subst eo230) | ((with_reducible refine gate_callee (f := 15) rfl ?_); refine goesL_ (some 125) rfl rfl Try.func15 (by kernel_rfl) rfl #[.slice Ao230 t150.length co230, .int .i64 t181] rfl sG ?_; (with_reducible refine (laws_markIntS.calls kj110 (fun k_ => some k_ = (.slice Ao230 t150.length co230 : Value).ownBlock) (.slice Ao230 t150.length co230) t150 t181 t183 t184 w _ ?side1 ?side2 A178.out).mono ?_); (case side1 => repeat (first | (with_reducible first | exact HB.out | apply sLA | apply sLN | apply sLD | refine sLS ?_ GE101.out | refine sLS ?_ GE128.out | refine sLS ?_ GE136.out | refine sLS ?_ GE154.out) | exact HB.out)); (case side2 => exact Kd.R_tight rfl HO_14.out); rintro e w231 ⟨rfl, hy0, hb, hkp⟩; refine ⟨_, rfl, ?_⟩; replace HO_7 := sA (Kd.R_mono (ok' := fun k_ => some k_ ≠ (v125 : Value).ownBlock ∧ some k_ ≠ (.slice Ao228 t147.length co228 : Value).ownBlock ∧ some k_ ≠ (.slice Ao230 t150.length co230 : Value).ownBlock ∧ some k_ ≠ (.slice Ao34 t118.length co34 : Value).ownBlock ∧ some k_ ≠ (.slice Ao42 t172.length co42 : Value).ownBlock ∧ some k_ ≠ (.slice Ao53 t144.length co53 : Value).ownBlock) (Kd.R_keptB (HO_7.out) hkp (fun k_ hk_ hs_ => (hk_.2.2.1) hs_)) (fun k_ hk_ => ⟨hk_.1.1, hk_.1.2.1, hk_.1.2.2.1, hk_.1.2.2.2.1, hk_.1.2.2.2.2.1, hk_.1.2.2.2.2.2⟩)); replace HO_8 := sA (Kd.R_mono (ok' := fun k_ => some k_ ≠ (v122 : Value).ownBlock ∧ some k_ ≠ (.slice Ao228 t147.length co228 : Value).ownBlock ∧ some k_ ≠ (.slice Ao230 t150.length co230 : Value).ownBlock ∧ some k_ ≠ (.slice Ao34 t118.length co34 : Value).ownBlock ∧ some k_ ≠ (.slice Ao42 t172.length co42 : Value).ownBlock ∧ some k_ ≠ (.slice Ao53 t144.length co53 : Value).ownBlock) (Kd.R_keptB (HO_8.out) hkp (fun k_ hk_ hs_ => (hk_.2.2.1) hs_)) (fun k_ hk_ => ⟨hk_.1.1, hk_.1.2.1, hk_.1.2.2.1, hk_.1.2.2.2.1, hk_.1.2.2.2.2.1, hk_.1.2.2.2.2.2⟩)); replace HO_13 := sA (Kd.R_mono (ok' := fun k_ => some k_ ≠ (v122 : Value).ownBlock ∧ some k_ ≠ (v125 : Value).ownBlock ∧ some k_ ≠ (.slice Ao230 t150.length co230 : Value).ownBlock ∧ some k_ ≠ (.slice Ao34 t118.length co34 : Value).ownBlock ∧ some k_ ≠ (.slice Ao42 t172.length co42 : Value).ownBlock ∧ some k_ ≠ (.slice Ao53 t144.length co53 : Value).ownBlock) (Kd.R_keptB (HO_13.out) hkp (fun k_ hk_ hs_ => (hk_.2.2.1) hs_)) (fun k_ hk_ => ⟨hk_.1.1, hk_.1.2.1, hk_.1.2.2.1, hk_.1.2.2.2.1, hk_.1.2.2.2.2.1, hk_.1.2.2.2.2.2⟩)); replace HO_129001 := sA (Kd.R_mono (ok' := fun k_ => some k_ ≠ (.slice Ao41 t171.length co41 : Value).ownBlock ∧ some k_ ≠ (.slice Ao52 t141.length co52 : Value).ownBlock) (Kd.R_keptB ((Kd.R_apart' HO_129001.out (Kd.R_typed HO_14.out) (by decide))) hkp (fun k_ hk_ hs_ => (hk_.2) hs_)) (fun k_ hk_ => ⟨hk_.1.1.1, hk_.1.1.2⟩)); replace HO_129002 := sA (Kd.R_mono (ok' := fun k_ => some k_ ≠ (v122 : Value).ownBlock ∧ some k_ ≠ (v125 : Value).ownBlock ∧ some k_ ≠ (.slice Ao228 t147.length co228 : Value).ownBlock ∧ some k_ ≠ (.slice Ao230 t150.length co230 : Value).ownBlock ∧ some k_ ≠ (.slice Ao42 t172.length co42 : Value).ownBlock ∧ some k_ ≠ (.slice Ao53 t144.length co53 : Value).ownBlock) (Kd.R_keptB (HO_129002.out) hkp (fun k_ hk_ hs_ => (hk_.2.2.2.1) hs_)) (fun k_ hk_ => ⟨hk_.1.1, hk_.1.2.1, hk_.1.2.2.1, hk_.1.2.2.2.1, hk_.1.2.2.2.2.1, hk_.1.2.2.2.2.2⟩)); replace HO_137001 := sA (Kd.R_mono (ok' := fun k_ => some k_ ≠ (.slice Ao33 t115.length co33 : Value).ownBlock ∧ some k_ ≠ (.slice Ao52 t141.length co52 : Value).ownBlock) (Kd.R_keptB ((Kd.R_apart' HO_137001.out (Kd.R_typed HO_14.out) (by decide))) hkp (fun k_ hk_ hs_ => (hk_.2) hs_)) (fun k_ hk_ => ⟨hk_.1.1.1, hk_.1.1.2⟩)); replace HO_137002 := sA (Kd.R_mono (ok' := fun k_ => some k_ ≠ (v122 : Value).ownBlock ∧ some k_ ≠ (v125 : Value).ownBlock ∧ some k_ ≠ (.slice Ao228 t147.length co228 : Value).ownBlock ∧ some k_ ≠ (.slice Ao230 t150.length co230 : Value).ownBlock ∧ some k_ ≠ (.slice Ao34 t118.length co34 : Value).ownBlock ∧ some k_ ≠ (.slice Ao53 t144.length co53 : Value).ownBlock) (Kd.R_keptB (HO_137002.out) hkp (fun k_ hk_ hs_ => (hk_.2.2.2.1) hs_)) (fun k_ hk_ => ⟨hk_.1.1, hk_.1.2.1, hk_.1.2.2.1, hk_.1.2.2.2.1, hk_.1.2.2.2.2.1, hk_.1.2.2.2.2.2⟩)); replace HO_155001 := sA (Kd.R_mono (ok' := fun k_ => some k_ ≠ (.slice Ao33 t115.length co33 : Value).ownBlock ∧ some k_ ≠ (.slice Ao41 t171.length co41 : Value).ownBlock) (Kd.R_keptB ((Kd.R_apart' HO_155001.out (Kd.R_typed HO_14.out) (by decide))) hkp (fun k_ hk_ hs_ => (hk_.2) hs_)) (fun k_ hk_ => ⟨hk_.1.1.1, hk_.1.1.2⟩)); replace HO_155002 := sA (Kd.R_mono (ok' := fun k_ => some k_ ≠ (v122 : Value).ownBlock ∧ some k_ ≠ (v125 : Value).ownBlock ∧ some k_ ≠ (.slice Ao228 t147.length co228 : Value).ownBlock ∧ some k_ ≠ (.slice Ao230 t150.length co230 : Value).ownBlock ∧ some k_ ≠ (.slice Ao34 t118.length co34 : Value).ownBlock ∧ some k_ ≠ (.slice Ao42 t172.length co42 : Value).ownBlock) (Kd.R_keptB (HO_155002.out) hkp (fun k_ hk_ hs_ => (hk_.2.2.2.1) hs_)) (fun k_ hk_ => ⟨hk_.1.1, hk_.1.2.1, hk_.1.2.2.1, hk_.1.2.2.2.1, hk_.1.2.2.2.2.1, hk_.1.2.2.2.2.2⟩)); replace BK101 := sA (blk_kept (sB BK101.out) hkp (fun hs_ => (fun e_ => (Kd.R_ne HO_14.out BK101.out (by decide)) e_) hs_)); replace BK128 := sA (blk_kept (sB BK128.out) hkp (fun hs_ => (fun e_ => (Kd.R_ne HO_14.out BK128.out (by decide)) e_) hs_)); replace BK136 := sA (blk_kept (sB BK136.out) hkp (fun hs_ => (fun e_ => (Kd.R_ne HO_14.out BK136.out (by decide)) e_) hs_)); replace BK154 := sA (blk_kept (sB BK154.out) hkp (fun hs_ => (fun e_ => (Kd.R_ne HO_14.out BK154.out (by decide)) e_) hs_)); replace HO_14 := sA (Kd.R_reok rfl hy0 (fun k_ e_ => HO_14.out.1 k_ e_)); replace HB := sA (hb); (try clear hb); (try clear hkp); (try clear hy0); obtain ⟨_, _, _, _, _, _⟩ := sD3 BK154) | ((with_reducible refine gate_callee (f := 19) rfl ?_); refine goesL_ (some 128) rfl rfl Try.func19 (by kernel_rfl) rfl #[.agg #[.int .i64 t140, .slice Ao52 t179.length co52, .slice Ao53 t180.length co53], .int .i64 1] rfl (by (try simp only [List.map_toArray, List.map_cons, List.map_nil]); first | done | (rw [show t179.length = t141.length from (Kd.R_reads' HO_155001.out).1.symm, show t180.length = t144.length from (Kd.R_reads' HO_155002.out).1.symm] <;> rfl) | rfl | (simp only [List.length_drop, List.length_take]; rfl)) ?_; (with_reducible refine (laws_heldSender.calls kj110 t140 _ _ t179 _ _ t180 1 t185 _ ?side1 ?side2 ?side3 ?side4 A179.out).mono ?_); (case side1 => exact sK (Kd.R_reads' HO_155001.out).2.2); (case side2 => rw [show t179.length = t141.length from (Kd.R_reads' HO_155001.out).1.symm]; exact (Kd.R_reads' HO_155001.out).2.1); (case side3 => exact sK (Kd.R_reads' HO_155002.out).2.2); (case side4 => rw [show t180.length = t144.length from (Kd.R_reads' HO_155002.out).1.symm]; exact (Kd.R_reads' HO_155002.out).2.1); rintro e w233 ⟨rfl, hb⟩; refine ⟨_, rfl, ?_⟩; replace HO_7 := sS HO_7 hb; replace HO_8 := sS HO_8 hb; replace HO_13 := sS HO_13 hb; replace HO_14 := sS HO_14 hb; replace HO_129001 := sS HO_129001 hb; replace HO_129002 := sS HO_129002 hb; replace HO_137001 := sS HO_137001 hb; replace HO_137002 := sS HO_137002 hb; replace HO_155001 := sS HO_155001 hb; replace HO_155002 := sS HO_155002 hb; replace BK101 := sJ BK101 hb; replace BK128 := sJ BK128 hb; replace BK136 := sJ BK136 hb; replace BK154 := sJ BK154 hb; replace HB := sA (below_step sH hb); (try clear hb); (try clear hb2); (try clear hk); (try clear hi)) | ((with_reducible refine gate_callee (f := 16) rfl ?_); refine goesL_ (some 133) rfl rfl Try.func16 (by kernel_rfl) rfl #[.slice Ao228 t182.length co228, .int .i64 t185] rfl (by (try simp only [List.map_toArray, List.map_cons, List.map_nil]); first | done | (rw [show t182.length = t147.length from (Kd.R_reads' HO_13.out).1.symm] <;> rfl) | rfl | (simp only [List.length_drop, List.length_take]; rfl)) ?_; (with_reducible refine (laws_heldIntS.calls kj110 _ _ t182 t185 t186 _ ?side1 ?side2 A192.out).mono ?_); (case side1 => exact sK (Kd.R_reads' HO_13.out).2.2); (case side2 => rw [show t182.length = t147.length from (Kd.R_reads' HO_13.out).1.symm]; exact (Kd.R_reads' HO_13.out).2.1); rintro e w' ⟨rfl, ⟨nd, rfl⟩⟩; refine ⟨_, rfl, ?_⟩; (try (rw [drewN_self w233]; generalize hq_ : World.drewN w233 _ = w233; have n0_ : Aside0 (Kd.R k59 59 w233 w.heap.size (fun k_ => some k_ ≠ (.slice Ao41 t171.length co41 : Value).ownBlock ∧ some k_ ≠ (.slice Ao52 t141.length co52 : Value).ownBlock) (.slice Ao33 t115.length co33) t115) := ⟨by rw [← hq_]; exact (sR HO_129001.out)⟩; have n1_ : Aside0 (Kd.R (Kd.int .i64) 3 w233 w.heap.size (fun k_ => some k_ ≠ (.slice Ao228 t147.length co228 : Value).ownBlock ∧ some k_ ≠ (.slice Ao42 t172.length co42 : Value).ownBlock ∧ some k_ ≠ (.slice Ao230 t150.length co230 : Value).ownBlock ∧ some k_ ≠ (.slice Ao53 t144.length co53 : Value).ownBlock ∧ some k_ ≠ (v122 : Value).ownBlock ∧ some k_ ≠ (v125 : Value).ownBlock) (.slice Ao34 t118.length co34) t118) := ⟨by rw [← hq_]; exact (sR (Kd.R_mono HO_129002.out (fun _ hk => ⟨hk.2.2.1, ⟨hk.2.2.2.2.1, ⟨hk.2.2.2.1, ⟨hk.2.2.2.2.2, ⟨hk.1, hk.2.1⟩⟩⟩⟩⟩)))⟩; have n2_ : Aside0 (Kd.R (Kd.int .i64) 3 w233 w.heap.size (fun k_ => some k_ ≠ (.slice Ao34 t118.length co34 : Value).ownBlock ∧ some k_ ≠ (.slice Ao42 t172.length co42 : Value).ownBlock ∧ some k_ ≠ (.slice Ao230 t150.length co230 : Value).ownBlock ∧ some k_ ≠ (.slice Ao53 t144.length co53 : Value).ownBlock ∧ some k_ ≠ (v122 : Value).ownBlock ∧ some k_ ≠ (v125 : Value).ownBlock) (.slice Ao228 t147.length co228) t182) := ⟨by rw [← hq_]; exact (sR (Kd.R_mono HO_13.out (fun _ hk => ⟨hk.2.2.2.1, ⟨hk.2.2.2.2.1, ⟨hk.2.2.1, ⟨hk.2.2.2.2.2, ⟨hk.1, hk.2.1⟩⟩⟩⟩⟩)))⟩; have n3_ : Aside0 (Kd.R k59 59 w233 w.heap.size (fun k_ => some k_ ≠ (.slice Ao33 t115.length co33 : Value).ownBlock ∧ some k_ ≠ (.slice Ao52 t141.length co52 : Value).ownBlock) (.slice Ao41 t171.length co41) t171) := ⟨by rw [← hq_]; exact (sR HO_137001.out)⟩; have n4_ : Aside0 (Kd.R (Kd.int .i64) 3 w233 w.heap.size (fun k_ => some k_ ≠ (.slice Ao34 t118.length co34 : Value).ownBlock ∧ some k_ ≠ (.slice Ao228 t147.length co228 : Value).ownBlock ∧ some k_ ≠ (.slice Ao230 t150.length co230 : Value).ownBlock ∧ some k_ ≠ (.slice Ao53 t144.length co53 : Value).ownBlock ∧ some k_ ≠ (v122 : Value).ownBlock ∧ some k_ ≠ (v125 : Value).ownBlock) (.slice Ao42 t172.length co42) t172) := ⟨by rw [← hq_]; exact (sR (Kd.R_mono HO_137002.out (fun _ hk => ⟨hk.2.2.2.2.1, ⟨hk.2.2.1, ⟨hk.2.2.2.1, ⟨hk.2.2.2.2.2, ⟨hk.1, hk.2.1⟩⟩⟩⟩⟩)))⟩; have n5_ : Aside0 (Kd.R (Kd.int .i64) 3 w233 w.heap.size (fun k_ => some k_ ≠ (.slice Ao34 t118.length co34 : Value).ownBlock ∧ some k_ ≠ (.slice Ao228 t147.length co228 : Value).ownBlock ∧ some k_ ≠ (.slice Ao42 t172.length co42 : Value).ownBlock ∧ some k_ ≠ (.slice Ao53 t144.length co53 : Value).ownBlock ∧ some k_ ≠ (v122 : Value).ownBlock ∧ some k_ ≠ (v125 : Value).ownBlock) (.slice Ao230 t150.length co230) t184) := ⟨by rw [← hq_]; exact (sR (Kd.R_mono HO_14.out (fun _ hk => ⟨hk.2.2.2.1, ⟨hk.2.2.1, ⟨hk.2.2.2.2.1, ⟨hk.2.2.2.2.2, ⟨hk.1, hk.2.1⟩⟩⟩⟩⟩)))⟩; have n6_ : Aside0 (Kd.R k59 59 w233 w.heap.size (fun k_ => some k_ ≠ (.slice Ao33 t115.length co33 : Value).ownBlock ∧ some k_ ≠ (.slice Ao41 t171.length co41 : Value).ownBlock) (.slice Ao52 t141.length co52) t179) := ⟨by rw [← hq_]; exact (sR HO_155001.out)⟩; have n7_ : Aside0 (Kd.R (Kd.int .i64) 3 w233 w.heap.size (fun k_ => some k_ ≠ (.slice Ao34 t118.length co34 : Value).ownBlock ∧ some k_ ≠ (.slice Ao228 t147.length co228 : Value).ownBlock ∧ some k_ ≠ (.slice Ao42 t172.length co42 : Value).ownBlock ∧ some k_ ≠ (.slice Ao230 t150.length co230 : Value).ownBlock ∧ some k_ ≠ (v122 : Value).ownBlock ∧ some k_ ≠ (v125 : Value).ownBlock) (.slice Ao53 t144.length co53) t180) := ⟨by rw [← hq_]; exact (sR (Kd.R_mono HO_155002.out (fun _ hk => ⟨hk.2.2.2.2.1, ⟨hk.2.2.1, ⟨hk.2.2.2.2.2, ⟨hk.2.2.2.1, ⟨hk.1, hk.2.1⟩⟩⟩⟩⟩)))⟩; have n8_ : Aside0 (Kd.R (Kd.int .i64) 3 w233 w.heap.size (fun k_ => some k_ ≠ (.slice Ao34 t118.length co34 : Value).ownBlock ∧ some k_ ≠ (.slice Ao228 t147.length co228 : Value).ownBlock ∧ some k_ ≠ (.slice Ao42 t172.length co42 : Value).ownBlock ∧ some k_ ≠ (.slice Ao230 t150.length co230 : Value).ownBlock ∧ some k_ ≠ (.slice Ao53 t144.length co53 : Value).ownBlock ∧ some k_ ≠ (v125 : Value).ownBlock) v122 t121) := ⟨by rw [← hq_]; exact (sR (Kd.R_mono HO_7.out (fun _ hk => ⟨hk.2.2.2.1, ⟨hk.2.1, ⟨hk.2.2.2.2.1, ⟨hk.2.2.1, ⟨hk.2.2.2.2.2, hk.1⟩⟩⟩⟩⟩)))⟩; have n9_ : Aside0 (Kd.R (Kd.int .i64) 3 w233 w.heap.size (fun k_ => some k_ ≠ (.slice Ao34 t118.length co34 : Value).ownBlock ∧ some k_ ≠ (.slice Ao228 t147.length co228 : Value).ownBlock ∧ some k_ ≠ (.slice Ao42 t172.length co42 : Value).ownBlock ∧ some k_ ≠ (.slice Ao230 t150.length co230 : Value).ownBlock ∧ some k_ ≠ (.slice Ao53 t144.length co53 : Value).ownBlock ∧ some k_ ≠ (v122 : Value).ownBlock) v125 t124) := ⟨by rw [← hq_]; exact (sR (Kd.R_mono HO_8.out (fun _ hk => ⟨hk.2.2.2.1, ⟨hk.2.1, ⟨hk.2.2.2.2.1, ⟨hk.2.2.1, ⟨hk.2.2.2.2.2, hk.1⟩⟩⟩⟩⟩)))⟩; have n10_ : Aside0 (w233.heap[gb101]? = some (.cells #[.int .i64 a0_0, .slice A0_1 l0_1.length c0_1, .slice A0_2 l0_2.length c0_2] 25 (0, 0))) := ⟨by rw [← hq_]; exact (sB BK101.out)⟩; have n11_ : Aside0 (w233.heap[gb128]? = some (.cells #[.int .i64 t114, .slice Ao33 t115.length co33, .slice Ao34 t118.length co34] 31 (0, 0))) := ⟨by rw [← hq_]; exact (sB BK128.out)⟩; have n12_ : Aside0 (w233.heap[gb136]? = some (.cells #[.int .i64 t129, .slice Ao41 t171.length co41, .slice Ao42 t172.length co42] 31 (0, 0))) := ⟨by rw [← hq_]; exact (sB BK136.out)⟩; have n13_ : Aside0 (w233.heap[gb154]? = some (.cells #[.int .i64 t140, .slice Ao52 t141.length co52, .slice Ao53 t144.length co53] 31 (0, 0))) := ⟨by rw [← hq_]; exact (sB BK154.out)⟩; have n14_ : Aside0 (Below w.heap.size w w233) := ⟨by rw [← hq_]; exact sH⟩; clear HO_129001 HO_129002 HO_13 HO_137001 HO_137002 HO_14 HO_155001 HO_155002 HO_7 HO_8 BK101 BK128 BK136 BK154 HB hq_; have HO_129001 := n0_; have HO_129002 := n1_; have HO_13 := n2_; have HO_137001 := n3_; have HO_137002 := n4_; have HO_14 := n5_; have HO_155001 := n6_; have HO_155002 := n7_; have HO_7 := n8_; have HO_8 := n9_; have BK101 := n10_; have BK128 := n11_; have BK136 := n12_; have BK154 := n13_; have HB := n14_; clear n0_ n1_ n2_ n3_ n4_ n5_ n6_ n7_ n8_ n9_ n10_ n11_ n12_ n13_ n14_))) | ((with_reducible refine gate_callee (f := 16) rfl ?_); refine goesL_ (some 138) rfl rfl Try.func16 (by kernel_rfl) rfl #[.slice Ao230 t184.length co230, .int .i64 t186] rfl (by (try simp only [List.map_toArray, List.map_cons, List.map_nil]); first | done | (rw [show t184.length = t150.length from (Kd.R_reads' HO_14.out).1.symm] <;> rfl) | rfl | (simp only [List.length_drop, List.length_take]; rfl)) ?_; (with_reducible refine (laws_heldIntS.calls kj110 _ _ t184 t186 t187 _ ?side1 ?side2 A205.out).mono ?_); (case side1 => exact sK (Kd.R_reads' HO_14.out).2.2); (case side2 => rw [show t184.length = t150.length from (Kd.R_reads' HO_14.out).1.symm]; exact (Kd.R_reads' HO_14.out).2.1); rintro e w' ⟨rfl, ⟨nd, rfl⟩⟩; refine ⟨_, rfl, ?_⟩; (try (rw [drewN_self w233]; generalize hq_ : World.drewN w233 _ = w233; have n0_ : Aside0 (Kd.R k59 59 w233 w.heap.size (fun k_ => some k_ ≠ (.slice Ao41 t171.length co41 : Value).ownBlock ∧ some k_ ≠ (.slice Ao52 t141.length co52 : Value).ownBlock) (.slice Ao33 t115.length co33) t115) := ⟨by rw [← hq_]; exact (sR HO_129001.out)⟩; have n1_ : Aside0 (Kd.R (Kd.int .i64) 3 w233 w.heap.size (fun k_ => some k_ ≠ (.slice Ao228 t147.length co228 : Value).ownBlock ∧ some k_ ≠ (.slice Ao42 t172.length co42 : Value).ownBlock ∧ some k_ ≠ (.slice Ao230 t150.length co230 : Value).ownBlock ∧ some k_ ≠ (.slice Ao53 t144.length co53 : Value).ownBlock ∧ some k_ ≠ (v122 : Value).ownBlock ∧ some k_ ≠ (v125 : Value).ownBlock) (.slice Ao34 t118.length co34) t118) := ⟨by rw [← hq_]; exact (sR (Kd.R_mono HO_129002.out (fun _ hk => ⟨hk.2.2.1, ⟨hk.2.2.2.2.1, ⟨hk.2.2.2.1, ⟨hk.2.2.2.2.2, ⟨hk.1, hk.2.1⟩⟩⟩⟩⟩)))⟩; have n2_ : Aside0 (Kd.R (Kd.int .i64) 3 w233 w.heap.size (fun k_ => some k_ ≠ (.slice Ao34 t118.length co34 : Value).ownBlock ∧ some k_ ≠ (.slice Ao42 t172.length co42 : Value).ownBlock ∧ some k_ ≠ (.slice Ao230 t150.length co230 : Value).ownBlock ∧ some k_ ≠ (.slice Ao53 t144.length co53 : Value).ownBlock ∧ some k_ ≠ (v122 : Value).ownBlock ∧ some k_ ≠ (v125 : Value).ownBlock) (.slice Ao228 t147.length co228) t182) := ⟨by rw [← hq_]; exact (sR (Kd.R_mono HO_13.out (fun _ hk => ⟨hk.2.2.2.1, ⟨hk.2.2.2.2.1, ⟨hk.2.2.1, ⟨hk.2.2.2.2.2, ⟨hk.1, hk.2.1⟩⟩⟩⟩⟩)))⟩; have n3_ : Aside0 (Kd.R k59 59 w233 w.heap.size (fun k_ => some k_ ≠ (.slice Ao33 t115.length co33 : Value).ownBlock ∧ some k_ ≠ (.slice Ao52 t141.length co52 : Value).ownBlock) (.slice Ao41 t171.length co41) t171) := ⟨by rw [← hq_]; exact (sR HO_137001.out)⟩; have n4_ : Aside0 (Kd.R (Kd.int .i64) 3 w233 w.heap.size (fun k_ => some k_ ≠ (.slice Ao34 t118.length co34 : Value).ownBlock ∧ some k_ ≠ (.slice Ao228 t147.length co228 : Value).ownBlock ∧ some k_ ≠ (.slice Ao230 t150.length co230 : Value).ownBlock ∧ some k_ ≠ (.slice Ao53 t144.length co53 : Value).ownBlock ∧ some k_ ≠ (v122 : Value).ownBlock ∧ some k_ ≠ (v125 : Value).ownBlock) (.slice Ao42 t172.length co42) t172) := ⟨by rw [← hq_]; exact (sR (Kd.R_mono HO_137002.out (fun _ hk => ⟨hk.2.2.2.2.1, ⟨hk.2.2.1, ⟨hk.2.2.2.1, ⟨hk.2.2.2.2.2, ⟨hk.1, hk.2.1⟩⟩⟩⟩⟩)))⟩; have n5_ : Aside0 (Kd.R (Kd.int .i64) 3 w233 w.heap.size (fun k_ => some k_ ≠ (.slice Ao34 t118.length co34 : Value).ownBlock ∧ some k_ ≠ (.slice Ao228 t147.length co228 : Value).ownBlock ∧ some k_ ≠ (.slice Ao42 t172.length co42 : Value).ownBlock ∧ some k_ ≠ (.slice Ao53 t144.length co53 : Value).ownBlock ∧ some k_ ≠ (v122 : Value).ownBlock ∧ some k_ ≠ (v125 : Value).ownBlock) (.slice Ao230 t150.length co230) t184) := ⟨by rw [← hq_]; exact (sR (Kd.R_mono HO_14.out (fun _ hk => ⟨hk.2.2.2.1, ⟨hk.2.2.1, ⟨hk.2.2.2.2.1, ⟨hk.2.2.2.2.2, ⟨hk.1, hk.2.1⟩⟩⟩⟩⟩)))⟩; have n6_ : Aside0 (Kd.R k59 59 w233 w.heap.size (fun k_ => some k_ ≠ (.slice Ao33 t115.length co33 : Value).ownBlock ∧ some k_ ≠ (.slice Ao41 t171.length co41 : Value).ownBlock) (.slice Ao52 t141.length co52) t179) := ⟨by rw [← hq_]; exact (sR HO_155001.out)⟩; have n7_ : Aside0 (Kd.R (Kd.int .i64) 3 w233 w.heap.size (fun k_ => some k_ ≠ (.slice Ao34 t118.length co34 : Value).ownBlock ∧ some k_ ≠ (.slice Ao228 t147.length co228 : Value).ownBlock ∧ some k_ ≠ (.slice Ao42 t172.length co42 : Value).ownBlock ∧ some k_ ≠ (.slice Ao230 t150.length co230 : Value).ownBlock ∧ some k_ ≠ (v122 : Value).ownBlock ∧ some k_ ≠ (v125 : Value).ownBlock) (.slice Ao53 t144.length co53) t180) := ⟨by rw [← hq_]; exact (sR (Kd.R_mono HO_155002.out (fun _ hk => ⟨hk.2.2.2.2.1, ⟨hk.2.2.1, ⟨hk.2.2.2.2.2, ⟨hk.2.2.2.1, ⟨hk.1, hk.2.1⟩⟩⟩⟩⟩)))⟩; have n8_ : Aside0 (Kd.R (Kd.int .i64) 3 w233 w.heap.size (fun k_ => some k_ ≠ (.slice Ao34 t118.length co34 : Value).ownBlock ∧ some k_ ≠ (.slice Ao228 t147.length co228 : Value).ownBlock ∧ some k_ ≠ (.slice Ao42 t172.length co42 : Value).ownBlock ∧ some k_ ≠ (.slice Ao230 t150.length co230 : Value).ownBlock ∧ some k_ ≠ (.slice Ao53 t144.length co53 : Value).ownBlock ∧ some k_ ≠ (v125 : Value).ownBlock) v122 t121) := ⟨by rw [← hq_]; exact (sR (Kd.R_mono HO_7.out (fun _ hk => ⟨hk.2.2.2.1, ⟨hk.2.1, ⟨hk.2.2.2.2.1, ⟨hk.2.2.1, ⟨hk.2.2.2.2.2, hk.1⟩⟩⟩⟩⟩)))⟩; have n9_ : Aside0 (Kd.R (Kd.int .i64) 3 w233 w.heap.size (fun k_ => some k_ ≠ (.slice Ao34 t118.length co34 : Value).ownBlock ∧ some k_ ≠ (.slice Ao228 t147.length co228 : Value).ownBlock ∧ some k_ ≠ (.slice Ao42 t172.length co42 : Value).ownBlock ∧ some k_ ≠ (.slice Ao230 t150.length co230 : Value).ownBlock ∧ some k_ ≠ (.slice Ao53 t144.length co53 : Value).ownBlock ∧ some k_ ≠ (v122 : Value).ownBlock) v125 t124) := ⟨by rw [← hq_]; exact (sR (Kd.R_mono HO_8.out (fun _ hk => ⟨hk.2.2.2.1, ⟨hk.2.1, ⟨hk.2.2.2.2.1, ⟨hk.2.2.1, ⟨hk.2.2.2.2.2, hk.1⟩⟩⟩⟩⟩)))⟩; have n10_ : Aside0 (w233.heap[gb101]? = some (.cells #[.int .i64 a0_0, .slice A0_1 l0_1.length c0_1, .slice A0_2 l0_2.length c0_2] 25 (0, 0))) := ⟨by rw [← hq_]; exact (sB BK101.out)⟩; have n11_ : Aside0 (w233.heap[gb128]? = some (.cells #[.int .i64 t114, .slice Ao33 t115.length co33, .slice Ao34 t118.length co34] 31 (0, 0))) := ⟨by rw [← hq_]; exact (sB BK128.out)⟩; have n12_ : Aside0 (w233.heap[gb136]? = some (.cells #[.int .i64 t129, .slice Ao41 t171.length co41, .slice Ao42 t172.length co42] 31 (0, 0))) := ⟨by rw [← hq_]; exact (sB BK136.out)⟩; have n13_ : Aside0 (w233.heap[gb154]? = some (.cells #[.int .i64 t140, .slice Ao52 t141.length co52, .slice Ao53 t144.length co53] 31 (0, 0))) := ⟨by rw [← hq_]; exact (sB BK154.out)⟩; have n14_ : Aside0 (Below w.heap.size w w233) := ⟨by rw [← hq_]; exact sH⟩; clear HO_129001 HO_129002 HO_13 HO_137001 HO_137002 HO_14 HO_155001 HO_155002 HO_7 HO_8 BK101 BK128 BK136 BK154 HB hq_; have HO_129001 := n0_; have HO_129002 := n1_; have HO_13 := n2_; have HO_137001 := n3_; have HO_137002 := n4_; have HO_14 := n5_; have HO_155001 := n6_; have HO_155002 := n7_; have HO_7 := n8_; have HO_8 := n9_; have BK101 := n10_; have BK128 := n11_; have BK136 := n12_; have BK154 := n13_; have HB := n14_; clear n0_ n1_ n2_ n3_ n4_ n5_ n6_ n7_ n8_ n9_ n10_ n11_ n12_ n13_ n14_)); have := NB101_128.out; have := NB128_101.out; have := NB101_136.out; have := NB136_101.out; obtain ⟨_, _, _, _, _, _⟩ := sD3 BK101) | ((with_reducible refine gate_callee (f := 10) rfl ?_); refine goesL_ (some 146) rfl rfl Try.func10 (by kernel_rfl) rfl #[.agg #[.int .i64 a0_0, .slice A0_1 l0_1.length c0_1, .slice A0_2 l0_2.length c0_2]] rfl sG ?_; (with_reducible refine (laws_toSender.calls kj110 a0_0 _ _ l0_1 _ _ l0_2 t188 t189 t192 _ ?side1 ?side2 ?side3 ?side4 A219.out).mono ?_); (case side1 => exact sK (Kd.C_below HR0_1.out HB.out)); (case side2 => exact HC0_1.out); (case side3 => exact sK (Kd.C_below HR0_2.out HB.out)); (case side4 => exact HC0_2.out); rintro e w237 ⟨v190, v193, rfl, ho0, ho1, hb⟩; refine ⟨_, rfl, ?_⟩; have HO191 := sA (Kd.R_lower (Kd.R_new' (Kd.R_new' (Kd.R_new' ho0 (Kd.R_lt (sR HO_129001.out))) (Kd.R_lt (sR HO_137001.out))) (Kd.R_lt (sR HO_155001.out))) (below_size sH)); replace HO_129001 := sA (Kd.R_elder' (sR HO_129001.out) (Kd.R_base ho0) hb); replace HO_137001 := sA (Kd.R_elder' (sR HO_137001.out) (Kd.R_base ho0) hb); replace HO_155001 := sA (Kd.R_elder' (sR HO_155001.out) (Kd.R_base ho0) hb); have HO194 := sA (Kd.R_lower (Kd.R_new' (Kd.R_new' (Kd.R_new' (Kd.R_new' (Kd.R_new' (Kd.R_new' (Kd.R_new' ho1 (Kd.R_lt (sR HO_7.out))) (Kd.R_lt (sR HO_8.out))) (Kd.R_lt (sR HO_13.out))) (Kd.R_lt (sR HO_14.out))) (Kd.R_lt (sR HO_129002.out))) (Kd.R_lt (sR HO_137002.out))) (Kd.R_lt (sR HO_155002.out))) (below_size sH)); replace HO_7 := sA (Kd.R_elder' (sR HO_7.out) (Kd.R_base ho1) hb); replace HO_8 := sA (Kd.R_elder' (sR HO_8.out) (Kd.R_base ho1) hb); replace HO_13 := sA (Kd.R_elder' (sR HO_13.out) (Kd.R_base ho1) hb); replace HO_14 := sA (Kd.R_elder' (sR HO_14.out) (Kd.R_base ho1) hb); replace HO_129002 := sA (Kd.R_elder' (sR HO_129002.out) (Kd.R_base ho1) hb); replace HO_137002 := sA (Kd.R_elder' (sR HO_137002.out) (Kd.R_base ho1) hb); replace HO_155002 := sA (Kd.R_elder' (sR HO_155002.out) (Kd.R_base ho1) hb); replace BK101 := sJ BK101 hb; replace BK128 := sJ BK128 hb; replace BK136 := sJ BK136 hb; replace BK154 := sJ BK154 hb; replace HB := sA (below_step sH hb); (try clear hb); (try clear hb2); (try clear hk); (try clear hi); (try clear ho0); (try clear ho1)) | ((with_reducible refine gate_callee (f := 22) rfl ?_); refine goesL_ (some 148) rfl rfl Try.func22 (by kernel_rfl) rfl #[.slice A1 l1.length c1] rfl sG ?_; (with_reducible refine (laws_toSpanS.calls kj110 _ _ l1 t195 _ ?side1 ?side2 A220.out).mono ?_); (case side1 => exact sK (Kd.C_below HR1.out HB.out)); (case side2 => exact HC1.out); rintro e w238 ⟨v196, rfl, ho0, hb⟩; refine ⟨_, rfl, ?_⟩; replace HO_7 := sS HO_7 hb; replace HO_8 := sS HO_8 hb; replace HO_13 := sS HO_13 hb; replace HO_14 := sS HO_14 hb; replace HO_129002 := sS HO_129002 hb; replace HO_137002 := sS HO_137002 hb; replace HO_155002 := sS HO_155002 hb; replace HO194 := sS HO194 hb; have HO197 := sA (Kd.R_lower (Kd.R_new' (Kd.R_new' (Kd.R_new' (Kd.R_new' ho0 (Kd.R_lt (sR HO_129001.out))) (Kd.R_lt (sR HO_137001.out))) (Kd.R_lt (sR HO_155001.out))) (Kd.R_lt (sR HO191.out))) (below_size sH)); replace HO_129001 := sA (Kd.R_elder' (sR HO_129001.out) (Kd.R_base ho0) hb); replace HO_137001 := sA (Kd.R_elder' (sR HO_137001.out) (Kd.R_base ho0) hb); replace HO_155001 := sA (Kd.R_elder' (sR HO_155001.out) (Kd.R_base ho0) hb); replace HO191 := sA (Kd.R_elder' (sR HO191.out) (Kd.R_base ho0) hb); replace BK101 := sJ BK101 hb; replace BK128 := sJ BK128 hb; replace BK136 := sJ BK136 hb; replace BK154 := sJ BK154 hb; replace HB := sA (below_step sH hb); (try clear hb); (try clear hb2); (try clear hk); (try clear hi); (try clear ho0); obtain ⟨Ao239, co239, eo239⟩ := Kd.R_slice HO191.out; subst eo239; obtain ⟨Ao240, co240, eo240⟩ := Kd.R_slice HO194.out; subst eo240; obtain ⟨Ao241, co241, eo241⟩ := Kd.R_slice HO197.out; subst eo241) | ((with_reducible refine gate_callee (f := 23) rfl ?_); refine goesL_ (some 149) rfl rfl Try.func23 (by kernel_rfl) rfl #[.agg #[.int .i64 t188, .slice Ao239 t189.length co239, .slice Ao240 t192.length co240], .slice Ao241 t195.length co241] rfl sG ?_; (with_reducible refine (impl_HearSpans.calls kj110 t188 _ _ t189 _ _ t192 _ _ t195 t198 t199 t202 t205 t208 t211 _ ?side1 ?side2 ?side3 ?side4 ?side5 ?side6 A221.out).mono ?_); (case side1 => exact sK (Kd.R_reads' HO191.out).2.2); (case side2 => exact (Kd.R_reads' HO191.out).2.1); (case side3 => exact sK (Kd.R_reads' HO194.out).2.2); (case side4 => exact (Kd.R_reads' HO194.out).2.1); (case side5 => exact sK (Kd.R_reads' HO197.out).2.2); (case side6 => exact (Kd.R_reads' HO197.out).2.1); rintro e w242 ⟨v200, v203, v206, v209, rfl, ho0, ho1, ho2, ho3, hb⟩; refine ⟨_, rfl, ?_⟩; have HO201 := sA (Kd.R_lower (Kd.R_new' (Kd.R_new' (Kd.R_new' (Kd.R_new' (Kd.R_new' ho0 (Kd.R_lt (sR HO_129001.out))) (Kd.R_lt (sR HO_137001.out))) (Kd.R_lt (sR HO_155001.out))) (Kd.R_lt (sR HO191.out))) (Kd.R_lt (sR HO197.out))) (below_size sH)); replace HO_129001 := sA (Kd.R_elder' (sR HO_129001.out) (Kd.R_base ho0) hb); replace HO_137001 := sA (Kd.R_elder' (sR HO_137001.out) (Kd.R_base ho0) hb); replace HO_155001 := sA (Kd.R_elder' (sR HO_155001.out) (Kd.R_base ho0) hb); replace HO191 := sA (Kd.R_elder' (sR HO191.out) (Kd.R_base ho0) hb); replace HO197 := sA (Kd.R_elder' (sR HO197.out) (Kd.R_base ho0) hb); have HO204 := sA (Kd.R_lower (Kd.R_new' (Kd.R_new' (Kd.R_new' (Kd.R_new' (Kd.R_new' (Kd.R_new' (Kd.R_new' (Kd.R_new' ho1 (Kd.R_lt (sR HO_7.out))) (Kd.R_lt (sR HO_8.out))) (Kd.R_lt (sR HO_13.out))) (Kd.R_lt (sR HO_14.out))) (Kd.R_lt (sR HO_129002.out))) (Kd.R_lt (sR HO_137002.out))) (Kd.R_lt (sR HO_155002.out))) (Kd.R_lt (sR HO194.out))) (below_size sH)); have HO207 := sA (Kd.R_lower (Kd.R_new' (Kd.R_new' (Kd.R_new' (Kd.R_new' (Kd.R_new' (Kd.R_new' (Kd.R_new' (Kd.R_new' ho2 (Kd.R_lt (sR HO_7.out))) (Kd.R_lt (sR HO_8.out))) (Kd.R_lt (sR HO_13.out))) (Kd.R_lt (sR HO_14.out))) (Kd.R_lt (sR HO_129002.out))) (Kd.R_lt (sR HO_137002.out))) (Kd.R_lt (sR HO_155002.out))) (Kd.R_lt (sR HO194.out))) (below_size sH)); have HO210 := sA (Kd.R_lower (Kd.R_new' (Kd.R_new' (Kd.R_new' (Kd.R_new' (Kd.R_new' (Kd.R_new' (Kd.R_new' (Kd.R_new' ho3 (Kd.R_lt (sR HO_7.out))) (Kd.R_lt (sR HO_8.out))) (Kd.R_lt (sR HO_13.out))) (Kd.R_lt (sR HO_14.out))) (Kd.R_lt (sR HO_129002.out))) (Kd.R_lt (sR HO_137002.out))) (Kd.R_lt (sR HO_155002.out))) (Kd.R_lt (sR HO194.out))) (below_size sH)); replace HO_7 := sA (Kd.R_mono (Kd.R_told (Kd.R_told (Kd.R_told (Kd.R_old (sR HO_7.out) hb) (Kd.R_base ho1)) (Kd.R_base ho2)) (Kd.R_base ho3)) (fun _ h_ => h_.1)); replace HO_8 := sA (Kd.R_mono (Kd.R_told (Kd.R_told (Kd.R_told (Kd.R_old (sR HO_8.out) hb) (Kd.R_base ho1)) (Kd.R_base ho2)) (Kd.R_base ho3)) (fun _ h_ => h_.1)); replace HO_13 := sA (Kd.R_mono (Kd.R_told (Kd.R_told (Kd.R_told (Kd.R_old (sR HO_13.out) hb) (Kd.R_base ho1)) (Kd.R_base ho2)) (Kd.R_base ho3)) (fun _ h_ => h_.1)); replace HO_14 := sA (Kd.R_mono (Kd.R_told (Kd.R_told (Kd.R_told (Kd.R_old (sR HO_14.out) hb) (Kd.R_base ho1)) (Kd.R_base ho2)) (Kd.R_base ho3)) (fun _ h_ => h_.1)); replace HO_129002 := sA (Kd.R_mono (Kd.R_told (Kd.R_told (Kd.R_told (Kd.R_old (sR HO_129002.out) hb) (Kd.R_base ho1)) (Kd.R_base ho2)) (Kd.R_base ho3)) (fun _ h_ => h_.1)); replace HO_137002 := sA (Kd.R_mono (Kd.R_told (Kd.R_told (Kd.R_told (Kd.R_old (sR HO_137002.out) hb) (Kd.R_base ho1)) (Kd.R_base ho2)) (Kd.R_base ho3)) (fun _ h_ => h_.1)); replace HO_155002 := sA (Kd.R_mono (Kd.R_told (Kd.R_told (Kd.R_told (Kd.R_old (sR HO_155002.out) hb) (Kd.R_base ho1)) (Kd.R_base ho2)) (Kd.R_base ho3)) (fun _ h_ => h_.1)); replace HO194 := sA (Kd.R_mono (Kd.R_told (Kd.R_told (Kd.R_told (Kd.R_old (sR HO194.out) hb) (Kd.R_base ho1)) (Kd.R_base ho2)) (Kd.R_base ho3)) (fun _ h_ => h_.1)); replace BK101 := sJ BK101 hb; replace BK128 := sJ BK128 hb; replace BK136 := sJ BK136 hb; replace BK154 := sJ BK154 hb; replace HB := sA (below_step sH hb); (try clear hb); (try clear hb2); (try clear hk); (try clear hi); (try clear ho0); (try clear ho1); (try clear ho2); (try clear ho3)) | ((with_reducible refine gate_dst (N := 19) rfl ?_); refine box_event ?hg (N := 19) ?hd (cs := #[.int .i64 0, .slice none 0 0, .slice none 0 0]) (t := 31) ?hr ?_; (case hd => rfl); (case hg => rfl); (case hr => first | (go_simp; done) | (go_simp; rfl)); intro gb212 hg w243 hbox hb; replace HO_7 := sS HO_7 hb; replace HO_8 := sS HO_8 hb; replace HO_13 := sS HO_13 hb; replace HO_14 := sS HO_14 hb; replace HO_129001 := sS HO_129001 hb; replace HO_129002 := sS HO_129002 hb; replace HO_137001 := sS HO_137001 hb; replace HO_137002 := sS HO_137002 hb; replace HO_155001 := sS HO_155001 hb; replace HO_155002 := sS HO_155002 hb; replace HO191 := sS HO191 hb; replace HO194 := sS HO194 hb; replace HO197 := sS HO197 hb; replace HO201 := sS HO201 hb; replace HO204 := sS HO204 hb; replace HO207 := sS HO207 hb; replace HO210 := sS HO210 hb; have BK212 := sA (hbox); have GW212 := sA ((by rw [hg]; exact (below_size sH) : w.heap.size ≤ gb212)); have GE212 := sA ((by rw [hg]; exact (below_size sH) : w.heap.size ≤ gb212)); replace HB := sA (below_step sH hb); have NB101_212 := sA ((by rw [hg]; exact Nat.ne_of_lt (blk_lt (sB BK101.out)) : gb101 ≠ gb212)); have NB212_101 := sA ((by rw [hg]; exact Nat.ne_of_gt (blk_lt (sB BK101.out)) : gb212 ≠ gb101)); replace BK101 := sJ BK101 hb; have NB128_212 := sA ((by rw [hg]; exact Nat.ne_of_lt (blk_lt (sB BK128.out)) : gb128 ≠ gb212)); have NB212_128 := sA ((by rw [hg]; exact Nat.ne_of_gt (blk_lt (sB BK128.out)) : gb212 ≠ gb128)); replace BK128 := sJ BK128 hb; have NB136_212 := sA ((by rw [hg]; exact Nat.ne_of_lt (blk_lt (sB BK136.out)) : gb136 ≠ gb212)); have NB212_136 := sA ((by rw [hg]; exact Nat.ne_of_gt (blk_lt (sB BK136.out)) : gb212 ≠ gb136)); replace BK136 := sJ BK136 hb; have NB154_212 := sA ((by rw [hg]; exact Nat.ne_of_lt (blk_lt (sB BK154.out)) : gb154 ≠ gb212)); have NB212_154 := sA ((by rw [hg]; exact Nat.ne_of_gt (blk_lt (sB BK154.out)) : gb212 ≠ gb154)); replace BK154 := sJ BK154 hb; clear hb hbox hg; have := NB212_101.out; have := NB101_212.out; have := NB212_128.out; have := NB128_212.out; have := NB212_136.out; have := NB136_212.out; have := NB212_154.out; have := NB154_212.out; obtain ⟨_, _, _, _, _, _⟩ := sD3 BK212; obtain ⟨Ao249, co249, eo249⟩ := Kd.R_slice HO201.out; subst eo249; obtain ⟨Ao250, co250, eo250⟩ := Kd.R_slice HO204.out; subst eo250))
               (try simp only [Act.put, sI, sZ, sV])
               go_cut [174] (fun v174 wc => ∃ (kq : Nat) (x174_221 : Bool), v174 = .bool x174_221 ∧ Aside0 (laws_FnExactHearSpans.j2 kq t182 t184 t183 x174_221 t140 t179 t180 = some r) ∧ Aside0 (kq ≤ kj110) ∧ Aside0 (Kd.R (Kd.int .i64) 3 wc w.heap.size (fun k_ => some k_ ≠ ((.slice Ao230 t150.length co230) : Value).ownBlock ∧ some k_ ≠ ((.slice Ao34 t118.length co34) : Value).ownBlock ∧ some k_ ≠ ((.slice Ao42 t172.length co42) : Value).ownBlock ∧ some k_ ≠ ((.slice Ao53 t144.length co53) : Value).ownBlock ∧ some k_ ≠ ((.slice Ao250 t202.length co250) : Value).ownBlock) (.slice Ao228 t147.length co228) t182) ∧ Aside0 (Kd.R (Kd.int .i64) 3 wc w.heap.size (fun k_ => some k_ ≠ ((.slice Ao228 t147.length co228) : Value).ownBlock ∧ some k_ ≠ ((.slice Ao34 t118.length co34) : Value).ownBlock ∧ some k_ ≠ ((.slice Ao42 t172.length co42) : Value).ownBlock ∧ some k_ ≠ ((.slice Ao53 t144.length co53) : Value).ownBlock ∧ some k_ ≠ ((.slice Ao250 t202.length co250) : Value).ownBlock) (.slice Ao230 t150.length co230) t184) ∧ Aside0 (Kd.R k59 59 wc w.heap.size (fun k_ => some k_ ≠ ((.slice Ao41 t171.length co41) : Value).ownBlock ∧ some k_ ≠ ((.slice Ao52 t141.length co52) : Value).ownBlock ∧ some k_ ≠ ((.slice Ao249 t199.length co249) : Value).ownBlock) (.slice Ao33 t115.length co33) t115) ∧ Aside0 (Kd.R (Kd.int .i64) 3 wc w.heap.size (fun k_ => some k_ ≠ ((.slice Ao228 t147.length co228) : Value).ownBlock ∧ some k_ ≠ ((.slice Ao230 t150.length co230) : Value).ownBlock ∧ some k_ ≠ ((.slice Ao42 t172.length co42) : Value).ownBlock ∧ some k_ ≠ ((.slice Ao53 t144.length co53) : Value).ownBlock ∧ some k_ ≠ ((.slice Ao250 t202.length co250) : Value).ownBlock) (.slice Ao34 t118.length co34) t118) ∧ Aside0 (Kd.R k59 59 wc w.heap.size (fun k_ => some k_ ≠ ((.slice Ao33 t115.length co33) : Value).ownBlock ∧ some k_ ≠ ((.slice Ao52 t141.length co52) : Value).ownBlock ∧ some k_ ≠ ((.slice Ao249 t199.length co249) : Value).ownBlock) (.slice Ao41 t171.length co41) t171) ∧ Aside0 (Kd.R (Kd.int .i64) 3 wc w.heap.size (fun k_ => some k_ ≠ ((.slice Ao228 t147.length co228) : Value).ownBlock ∧ some k_ ≠ ((.slice Ao230 t150.length co230) : Value).ownBlock ∧ some k_ ≠ ((.slice Ao34 t118.length co34) : Value).ownBlock ∧ some k_ ≠ ((.slice Ao53 t144.length co53) : Value).ownBlock ∧ some k_ ≠ ((.slice Ao250 t202.length co250) : Value).ownBlock) (.slice Ao42 t172.length co42) t172) ∧ Aside0 (Kd.R k59 59 wc w.heap.size (fun k_ => some k_ ≠ ((.slice Ao33 t115.length co33) : Value).ownBlock ∧ some k_ ≠ ((.slice Ao41 t171.length co41) : Value).ownBlock ∧ some k_ ≠ ((.slice Ao249 t199.length co249) : Value).ownBlock) (.slice Ao52 t141.length co52) t179) ∧ Aside0 (Kd.R (Kd.int .i64) 3 wc w.heap.size (fun k_ => some k_ ≠ ((.slice Ao228 t147.length co228) : Value).ownBlock ∧ some k_ ≠ ((.slice Ao230 t150.length co230) : Value).ownBlock ∧ some k_ ≠ ((.slice Ao34 t118.length co34) : Value).ownBlock ∧ some k_ ≠ ((.slice Ao42 t172.length co42) : Value).ownBlock ∧ some k_ ≠ ((.slice Ao250 t202.length co250) : Value).ownBlock) (.slice Ao53 t144.length co53) t180) ∧ Aside0 (Kd.R k59 59 wc w.heap.size (fun k_ => some k_ ≠ ((.slice Ao33 t115.length co33) : Value).ownBlock ∧ some k_ ≠ ((.slice Ao41 t171.length co41) : Value).ownBlock ∧ some k_ ≠ ((.slice Ao52 t141.length co52) : Value).ownBlock) (.slice Ao249 t199.length co249) t199) ∧ Aside0 (Kd.R (Kd.int .i64) 3 wc w.heap.size (fun k_ => some k_ ≠ ((.slice Ao228 t147.length co228) : Value).ownBlock ∧ some k_ ≠ ((.slice Ao230 t150.length co230) : Value).ownBlock ∧ some k_ ≠ ((.slice Ao34 t118.length co34) : Value).ownBlock ∧ some k_ ≠ ((.slice Ao42 t172.length co42) : Value).ownBlock ∧ some k_ ≠ ((.slice Ao53 t144.length co53) : Value).ownBlock) (.slice Ao250 t202.length co250) t202) ∧ Aside0 (wc.heap[gb101]? = some (.cells #[.int .i64 a0_0, (.slice A0_1 l0_1.length c0_1), (.slice A0_2 l0_2.length c0_2)] 25 (0, 0))) ∧ Aside0 (wc.heap[gb128]? = some (.cells #[.int .i64 t114, (.slice Ao33 t115.length co33), (.slice Ao34 t118.length co34)] 31 (0, 0))) ∧ Aside0 (wc.heap[gb136]? = some (.cells #[.int .i64 t129, (.slice Ao41 t171.length co41), (.slice Ao42 t172.length co42)] 31 (0, 0))) ∧ Aside0 (wc.heap[gb154]? = some (.cells #[.int .i64 t140, (.slice Ao52 t141.length co52), (.slice Ao53 t144.length co53)] 31 (0, 0))) ∧ Aside0 (wc.heap[gb212]? = some (.cells #[.int .i64 t198, (.slice Ao249 t199.length co249), (.slice Ao250 t202.length co250)] 31 (0, 0))) ∧ Aside0 (Below w.heap.size w wc))
               case first =>
                have H := HC222.out
                clear HC222
                obtain ⟨t213, A251, H⟩ := sN H
                by_cases c252 : t213 = true
                ·subst c252
                 replace H := sY H
                 obtain ⟨t214, A253, H⟩ := sN H
                 by_cases c254 : t214 = true
                 ·subst c254
                  replace H := sY H
                  obtain ⟨t215, A255, H⟩ := sN H
                  by_cases c256 : t215 = true
                  ·subst c256
                   replace H := sY H
                   have H' := sA H
                   clear H
                   have := NB212_101.out
                   have := NB101_212.out
                   have := NB212_128.out
                   have := NB128_212.out
                   have := NB212_136.out
                   have := NB136_212.out
                   have := NB212_154.out
                   have := NB154_212.out
                   obtain ⟨_, _, _, _, _, _⟩ := sD3 BK212
                   have := NB128_101.out
                   have := NB101_128.out
                   have := NB128_136.out
                   have := NB136_128.out
                   have := NB128_154.out
                   have := NB154_128.out
                   obtain ⟨_, _, _, _, _, _⟩ := sD3 BK128
                   go_wp2_with (first | ((with_reducible refine gate_callee (f := 13) rfl ?_); refine goesL_ (some 156) rfl rfl Try.func13 (by kernel_rfl) rfl #[.agg #[.int .i64 t198, .slice Ao249 t199.length co249, .slice Ao250 t202.length co250], .agg #[.int .i64 t114, .slice Ao33 t115.length co33, .slice Ao34 t118.length co34]] rfl sG ?_; (with_reducible refine (laws_eqSender.calls kj110 t198 _ _ t199 _ _ t202 t114 _ _ t115 _ _ t118 true _ ?side1 ?side2 ?side3 ?side4 ?side5 ?side6 ?side7 ?side8 A251.out).mono ?_); (case side1 => exact (Kd.R_reads' (sE HO201 BK212 (by decide))).2.2); (case side2 => exact (Kd.R_reads' HO201.out).2.1); (case side3 => exact (Kd.R_reads' (sE HO204 BK212 (by decide))).2.2); (case side4 => exact (Kd.R_reads' HO204.out).2.1); (case side5 => exact (Kd.R_reads' (sE HO_129001 BK212 (by decide))).2.2); (case side6 => exact (Kd.R_reads' HO_129001.out).2.1); (case side7 => exact (Kd.R_reads' (sE HO_129002 BK212 (by decide))).2.2); (case side8 => exact (Kd.R_reads' HO_129002.out).2.1); rintro e w266 ⟨rfl, hb⟩; refine ⟨_, rfl, ?_⟩; replace HO_7 := sA (Kd.R_below (sE HO_7 BK212 (by decide)) hb); replace HO_8 := sA (Kd.R_below (sE HO_8 BK212 (by decide)) hb); replace HO_13 := sA (Kd.R_below (sE HO_13 BK212 (by decide)) hb); replace HO_14 := sA (Kd.R_below (sE HO_14 BK212 (by decide)) hb); replace HO_129001 := sA (Kd.R_below (sE HO_129001 BK212 (by decide)) hb); replace HO_129002 := sA (Kd.R_below (sE HO_129002 BK212 (by decide)) hb); replace HO_137001 := sA (Kd.R_below (sE HO_137001 BK212 (by decide)) hb); replace HO_137002 := sA (Kd.R_below (sE HO_137002 BK212 (by decide)) hb); replace HO_155001 := sA (Kd.R_below (sE HO_155001 BK212 (by decide)) hb); replace HO_155002 := sA (Kd.R_below (sE HO_155002 BK212 (by decide)) hb); replace HO191 := sA (Kd.R_below (sE HO191 BK212 (by decide)) hb); replace HO194 := sA (Kd.R_below (sE HO194 BK212 (by decide)) hb); replace HO197 := sA (Kd.R_below (sE HO197 BK212 (by decide)) hb); replace HO201 := sA (Kd.R_below (sE HO201 BK212 (by decide)) hb); replace HO204 := sA (Kd.R_below (sE HO204 BK212 (by decide)) hb); replace HO207 := sA (Kd.R_below (sE HO207 BK212 (by decide)) hb); replace HO210 := sA (Kd.R_below (sE HO210 BK212 (by decide)) hb); replace BK101 := sA (blk_below (g := gb101) (o := .cells #[.int .i64 a0_0, .slice A0_1 l0_1.length c0_1, .slice A0_2 l0_2.length c0_2] 25 (0, 0)) (sF BK101 NB101_212) hb); replace BK128 := sA (blk_below (g := gb128) (o := .cells #[.int .i64 t114, .slice Ao33 t115.length co33, .slice Ao34 t118.length co34] 31 (0, 0)) (sF BK128 NB128_212) hb); replace BK136 := sA (blk_below (g := gb136) (o := .cells #[.int .i64 t129, .slice Ao41 t171.length co41, .slice Ao42 t172.length co42] 31 (0, 0)) (sF BK136 NB136_212) hb); replace BK154 := sA (blk_below (g := gb154) (o := .cells #[.int .i64 t140, .slice Ao52 t141.length co52, .slice Ao53 t144.length co53] 31 (0, 0)) (sF BK154 NB154_212) hb); replace BK212 := sA (blk_below (g := gb212) (o := .cells #[.int .i64 t198, .slice Ao249 t199.length co249, .slice Ao250 t202.length co250] 31 (0, 0)) (by (with_reducible repeat first | apply blk_drewN | apply blk_drew | apply blk_alloc); refine blk_put (cs := #[.int .i64 t198, .slice Ao249 t199.length co249, .slice none 0 0]) ?_ 2 _ rfl; (with_reducible repeat first | apply blk_drewN | apply blk_drew | apply blk_alloc); refine blk_put (cs := #[.int .i64 t198, .slice none 0 0, .slice none 0 0]) ?_ 1 _ rfl; (with_reducible repeat first | apply blk_drewN | apply blk_drew | apply blk_alloc); refine blk_put (cs := #[.int .i64 0, .slice none 0 0, .slice none 0 0]) ?_ 0 _ rfl; (with_reducible repeat first | apply blk_drewN | apply blk_drew | apply blk_alloc); exact BK212.out) hb); replace HB := sA (below_step sH hb); (try clear hb); (try clear hb2); (try clear hk); (try clear hi); obtain ⟨Ao267, co267, eo267⟩ := Kd.R_slice HO207.out; subst eo267; obtain ⟨Ao268, co268, eo268⟩ := Kd.R_slice HO_7.out; subst eo268) | (go_at_call 12; (with_reducible refine (laws_eqIntS.calls kj110 _ _ t205 _ _ t121 true _ ?side1 ?side2 ?side3 ?side4 A253.out).mono ?_); (case side1 => exact sK (Kd.R_reads' HO207.out).2.2); (case side2 => exact (Kd.R_reads' HO207.out).2.1); (case side3 => exact sK (Kd.R_reads' HO_7.out).2.2); (case side4 => exact (Kd.R_reads' HO_7.out).2.1); rintro e w' ⟨rfl, ⟨nd, rfl⟩⟩; obtain ⟨Ao269, co269, eo269⟩ := Kd.R_slice HO210.out; subst eo269; obtain ⟨Ao270, co270, eo270⟩ := Kd.R_slice HO_8.out; subst eo270) | (go_at_call 12; (with_reducible refine (laws_eqIntS.calls kj110 _ _ t208 _ _ t124 true _ ?side1 ?side2 ?side3 ?side4 A255.out).mono ?_); (case side1 => exact sK (Kd.R_reads' HO210.out).2.2); (case side2 => exact (Kd.R_reads' HO210.out).2.1); (case side3 => exact sK (Kd.R_reads' HO_8.out).2.2); (case side4 => exact (Kd.R_reads' HO_8.out).2.1); rintro e w' ⟨rfl, ⟨nd, rfl⟩⟩))
                   go_meet
                   case rel => exact ⟨_, ((t211 != t127)), (by first | rfl | (simp; done) | (simp [*]; done)), H', ⟨by have := HJ18.out; have := HJ110.out; first | omega | exact Nat.le_refl _⟩, ⟨by (try simp only [hl137001_110]); (try simp only [hl137002_110]); (with_reducible repeat (first | apply Kd.R_alloc | apply Kd.R_drewN | apply Kd.R_drew)); exact Kd.R_mono HO_13.out (fun _ hk => by first | exact ⟨hk.1.1.1.1.2.2.1, ⟨hk.1.1.1.1.2.2.2.1, ⟨hk.1.1.1.1.2.2.2.2.1, ⟨hk.1.1.1.1.2.2.2.2.2, hk.1.1.2⟩⟩⟩⟩ | (simp only [ne_eq] at hk ⊢; simp only [hk, not_false_eq_true, and_self]))⟩, ⟨by (try simp only [hl137001_110]); (try simp only [hl137002_110]); (with_reducible repeat (first | apply Kd.R_alloc | apply Kd.R_drewN | apply Kd.R_drew)); exact Kd.R_mono HO_14.out (fun _ hk => by first | exact ⟨hk.1.1.1.1.2.2.1, ⟨hk.1.1.1.1.2.2.2.1, ⟨hk.1.1.1.1.2.2.2.2.1, ⟨hk.1.1.1.1.2.2.2.2.2, hk.1.1.2⟩⟩⟩⟩ | (simp only [ne_eq] at hk ⊢; simp only [hk, not_false_eq_true, and_self]))⟩, ⟨by (try simp only [hl137001_110]); (try simp only [hl137002_110]); (with_reducible repeat (first | apply Kd.R_alloc | apply Kd.R_drewN | apply Kd.R_drew)); exact Kd.R_mono HO_129001.out (fun _ hk => by first | exact ⟨hk.1.1.1.1, ⟨hk.1.1.1.2, hk.2⟩⟩ | (simp only [ne_eq] at hk ⊢; simp only [hk, not_false_eq_true, and_self]))⟩, ⟨by (try simp only [hl137001_110]); (try simp only [hl137002_110]); (with_reducible repeat (first | apply Kd.R_alloc | apply Kd.R_drewN | apply Kd.R_drew)); exact Kd.R_mono HO_129002.out (fun _ hk => by first | exact ⟨hk.1.1.1.1.2.2.1, ⟨hk.1.1.1.1.2.2.2.1, ⟨hk.1.1.1.1.2.2.2.2.1, ⟨hk.1.1.1.1.2.2.2.2.2, hk.1.1.2⟩⟩⟩⟩ | (simp only [ne_eq] at hk ⊢; simp only [hk, not_false_eq_true, and_self]))⟩, ⟨by (try simp only [hl137001_110]); (try simp only [hl137002_110]); (with_reducible repeat (first | apply Kd.R_alloc | apply Kd.R_drewN | apply Kd.R_drew)); exact Kd.R_mono HO_137001.out (fun _ hk => by first | exact ⟨hk.1.1.1.1, ⟨hk.1.1.1.2, hk.2⟩⟩ | (simp only [ne_eq] at hk ⊢; simp only [hk, not_false_eq_true, and_self]))⟩, ⟨by (try simp only [hl137001_110]); (try simp only [hl137002_110]); (with_reducible repeat (first | apply Kd.R_alloc | apply Kd.R_drewN | apply Kd.R_drew)); exact Kd.R_mono HO_137002.out (fun _ hk => by first | exact ⟨hk.1.1.1.1.2.2.1, ⟨hk.1.1.1.1.2.2.2.1, ⟨hk.1.1.1.1.2.2.2.2.1, ⟨hk.1.1.1.1.2.2.2.2.2, hk.1.1.2⟩⟩⟩⟩ | (simp only [ne_eq] at hk ⊢; simp only [hk, not_false_eq_true, and_self]))⟩, ⟨by (try simp only [hl137001_110]); (try simp only [hl137002_110]); (with_reducible repeat (first | apply Kd.R_alloc | apply Kd.R_drewN | apply Kd.R_drew)); exact Kd.R_mono HO_155001.out (fun _ hk => by first | exact ⟨hk.1.1.1.1, ⟨hk.1.1.1.2, hk.2⟩⟩ | (simp only [ne_eq] at hk ⊢; simp only [hk, not_false_eq_true, and_self]))⟩, ⟨by (try simp only [hl137001_110]); (try simp only [hl137002_110]); (with_reducible repeat (first | apply Kd.R_alloc | apply Kd.R_drewN | apply Kd.R_drew)); exact Kd.R_mono HO_155002.out (fun _ hk => by first | exact ⟨hk.1.1.1.1.2.2.1, ⟨hk.1.1.1.1.2.2.2.1, ⟨hk.1.1.1.1.2.2.2.2.1, ⟨hk.1.1.1.1.2.2.2.2.2, hk.1.1.2⟩⟩⟩⟩ | (simp only [ne_eq] at hk ⊢; simp only [hk, not_false_eq_true, and_self]))⟩, ⟨by (try simp only [hl137001_110]); (try simp only [hl137002_110]); (with_reducible repeat (first | apply Kd.R_alloc | apply Kd.R_drewN | apply Kd.R_drew)); exact Kd.R_mono HO201.out (fun _ hk => by first | exact ⟨hk.1.1.1.1.2, ⟨hk.1.1.1.2, hk.1.1.2⟩⟩ | (simp only [ne_eq] at hk ⊢; simp only [hk, not_false_eq_true, and_self]))⟩, ⟨by (try simp only [hl137001_110]); (try simp only [hl137002_110]); (with_reducible repeat (first | apply Kd.R_alloc | apply Kd.R_drewN | apply Kd.R_drew)); exact Kd.R_mono HO204.out (fun _ hk => by first | exact ⟨hk.1.1.1.1.1.2, ⟨hk.1.1.1.1.2, ⟨hk.1.1.1.2, ⟨hk.1.1.2, hk.1.2⟩⟩⟩⟩ | (simp only [ne_eq] at hk ⊢; simp only [hk, not_false_eq_true, and_self]))⟩, ⟨by (try simp only [hl137001_110]); (try simp only [hl137002_110]); (with_reducible repeat first | apply blk_drewN | apply blk_drew | apply blk_alloc); exact BK101.out⟩, ⟨by (try simp only [hl137001_110]); (try simp only [hl137002_110]); (with_reducible repeat first | apply blk_drewN | apply blk_drew | apply blk_alloc); exact BK128.out⟩, ⟨by (try simp only [hl137001_110]); (try simp only [hl137002_110]); (with_reducible repeat first | apply blk_drewN | apply blk_drew | apply blk_alloc); exact BK136.out⟩, ⟨by (try simp only [hl137001_110]); (try simp only [hl137002_110]); (with_reducible repeat first | apply blk_drewN | apply blk_drew | apply blk_alloc); exact BK154.out⟩, ⟨by (try simp only [hl137001_110]); (try simp only [hl137002_110]); (with_reducible repeat first | apply blk_drewN | apply blk_drew | apply blk_alloc); exact BK212.out⟩, ⟨sH⟩⟩
                  ·replace c256 := Bool.eq_false_iff.mpr c256
                   subst c256
                   replace H := sX H
                   exact False.elim (by first | exact laws_FnExactHearSpans.j0_true hr_ H | exact laws_FnExactHearSpans.j1_true hr_ H | exact laws_FnExactHearSpans.j2_true hr_ H)
                 ·replace c254 := Bool.eq_false_iff.mpr c254
                  subst c254
                  replace H := sX H
                  exact False.elim (by first | exact laws_FnExactHearSpans.j0_true hr_ H | exact laws_FnExactHearSpans.j1_true hr_ H | exact laws_FnExactHearSpans.j2_true hr_ H)
                ·replace c252 := Bool.eq_false_iff.mpr c252
                 subst c252
                 replace H := sX H
                 exact False.elim (by first | exact laws_FnExactHearSpans.j0_true hr_ H | exact laws_FnExactHearSpans.j1_true hr_ H | exact laws_FnExactHearSpans.j2_true hr_ H)
               case rest =>
                clear HC222
                (try clear c1); (try clear c2); (try clear p2); (try clear c3); (try clear c7); (try clear c8); (try clear c9); (try clear c10); (try clear c12); (try clear c13); (try clear c14); (try clear c15); (try clear c16); (try clear c17); (try clear c18); (try clear c19); (try clear c20); (try clear c21); (try clear c22); (try clear c23); (try clear c24); (try clear c25); (try clear c26); (try clear c27); (try clear c28); (try clear c29); (try clear c30); (try clear c72); (try clear c73); (try clear c74); (try clear c76); (try clear c77); (try clear c84); (try clear c85); (try clear c86); (try clear c88); (try clear c89); (try clear c94); (try clear c95); (try clear c96); (try clear c98); (try clear c99); (try clear c102); (try clear c105); (try clear c108); (try clear c120); (try clear c121); (try clear c122); (try clear c126); (try clear c126b0); (try clear c128); (try clear c130); (try clear c132); (try clear c133); (try clear c134); (try clear c135); (try clear c137); (try clear c138); (try clear c145); (try clear c146); (try clear c147); (try clear c149); (try clear c150); (try clear c157); (try clear c158); (try clear c159); (try clear c161); (try clear c162); (try clear c167); (try clear c168); (try clear c169); (try clear c171); (try clear c172); (try clear c175); (try clear c180); (try clear c180b0); (try clear c181); (try clear c182); (try clear c183); (try clear c193); (try clear c193b0); (try clear c194); (try clear c195); (try clear c196); (try clear c206); (try clear c206b0); (try clear c207); (try clear c208); (try clear c209); (try clear c218); (try clear c218b0); (try clear c218b1); (try clear c223); (try clear c224); (try clear c225); (try clear c234); (try clear c235); (try clear c244); (try clear c245); (try clear c246); (try clear c247); (try clear c252); (try clear c254); (try clear c256); (try clear c257); (try clear c258); (try clear c259); (try clear c260); (try clear c262); (try clear c263); (try clear c264); (try clear c271); (try clear c272); (try clear c273); (try clear c274); (try clear c276); (try clear c277); (try clear c278); (try clear c285); (try clear c286); (try clear c287); (try clear c288); (try clear c290); (try clear c291); (try clear c292); (try clear c297); (try clear c298); (try clear c299); (try clear c300); (try clear c302); (try clear c303); (try clear c304); (try clear p2)
                obtain ⟨kq, x174_221, rfl, HA, HJ221, HO_13, HO_14, HO_129001, HO_129002, HO_137001, HO_137002, HO_155001, HO_155002, HO_213001, HO_213002, BK101, BK128, BK136, BK154, BK212, HB⟩ := hcut
                have hl13_221 := (Kd.R_reads' HO_13.out).1
                rw [hl13_221] at HO_13
                (try simp only [hl13_221])
                (try simp only [hl13_221] at BK101)
                (try simp only [hl13_221] at BK128)
                (try simp only [hl13_221] at BK136)
                (try simp only [hl13_221] at BK154)
                (try simp only [hl13_221] at BK212)
                (try simp only [hl13_221] at HO_14)
                (try simp only [hl13_221] at HO_129001)
                (try simp only [hl13_221] at HO_129002)
                (try simp only [hl13_221] at HO_137001)
                (try simp only [hl13_221] at HO_137002)
                (try simp only [hl13_221] at HO_155001)
                (try simp only [hl13_221] at HO_155002)
                (try simp only [hl13_221] at HO_213001)
                (try simp only [hl13_221] at HO_213002)
                have hl14_221 := (Kd.R_reads' HO_14.out).1
                rw [hl14_221] at HO_14
                (try simp only [hl14_221])
                (try simp only [hl14_221] at BK101)
                (try simp only [hl14_221] at BK128)
                (try simp only [hl14_221] at BK136)
                (try simp only [hl14_221] at BK154)
                (try simp only [hl14_221] at BK212)
                (try simp only [hl14_221] at HO_13)
                (try simp only [hl14_221] at HO_129001)
                (try simp only [hl14_221] at HO_129002)
                (try simp only [hl14_221] at HO_137001)
                (try simp only [hl14_221] at HO_137002)
                (try simp only [hl14_221] at HO_155001)
                (try simp only [hl14_221] at HO_155002)
                (try simp only [hl14_221] at HO_213001)
                (try simp only [hl14_221] at HO_213002)
                have hl155001_221 := (Kd.R_reads' HO_155001.out).1
                rw [hl155001_221] at HO_155001
                (try simp only [hl155001_221])
                (try simp only [hl155001_221] at BK101)
                (try simp only [hl155001_221] at BK128)
                (try simp only [hl155001_221] at BK136)
                (try simp only [hl155001_221] at BK154)
                (try simp only [hl155001_221] at BK212)
                (try simp only [hl155001_221] at HO_13)
                (try simp only [hl155001_221] at HO_14)
                (try simp only [hl155001_221] at HO_129001)
                (try simp only [hl155001_221] at HO_129002)
                (try simp only [hl155001_221] at HO_137001)
                (try simp only [hl155001_221] at HO_137002)
                (try simp only [hl155001_221] at HO_155002)
                (try simp only [hl155001_221] at HO_213001)
                (try simp only [hl155001_221] at HO_213002)
                have hl155002_221 := (Kd.R_reads' HO_155002.out).1
                rw [hl155002_221] at HO_155002
                (try simp only [hl155002_221])
                (try simp only [hl155002_221] at BK101)
                (try simp only [hl155002_221] at BK128)
                (try simp only [hl155002_221] at BK136)
                (try simp only [hl155002_221] at BK154)
                (try simp only [hl155002_221] at BK212)
                (try simp only [hl155002_221] at HO_13)
                (try simp only [hl155002_221] at HO_14)
                (try simp only [hl155002_221] at HO_129001)
                (try simp only [hl155002_221] at HO_129002)
                (try simp only [hl155002_221] at HO_137001)
                (try simp only [hl155002_221] at HO_137002)
                (try simp only [hl155002_221] at HO_155001)
                (try simp only [hl155002_221] at HO_213001)
                (try simp only [hl155002_221] at HO_213002)
                cases kq with
                | zero => exact absurd HA.out (by simp [laws_FnExactHearSpans.j2])
                | succ kj221 =>
                 have H := HA.out
                 clear HA
                 simp only [laws_FnExactHearSpans.j2] at H
                 by_cases c307 : x174_221 = true
                 ·subst c307
                  replace H := sY H
                  exact absurd (hr_.symm.trans (Option.some.inj H).symm) (by decide)
                 ·replace c307 := Bool.eq_false_iff.mpr c307
                  subst c307
                  replace H := sX H
                  obtain ⟨t216, A308, H⟩ := sN H
                  by_cases c309 : t216 < 0
                  ·rw [if_pos c309] at H
                   have c309b0 : decide (t216 < 0) = true := decide_eq_true c309
                   clear c309
                   exact absurd (hr_.symm.trans (Option.some.inj H).symm) (by decide)
                  ·rw [if_neg c309] at H
                   have c309b0 : decide (t216 < 0) = false := decide_eq_false c309
                   clear c309
                   obtain ⟨t217, A316, H⟩ := sN H
                   by_cases c317 : t217 < 0
                   ·rw [if_pos c317] at H
                    have c317b0 : decide (t217 < 0) = true := decide_eq_true c317
                    clear c317
                    exact absurd (hr_.symm.trans (Option.some.inj H).symm) (by decide)
                   ·rw [if_neg c317] at H
                    have c317b0 : decide (t217 < 0) = false := decide_eq_false c317
                    clear c317
                    obtain ⟨t218, A324, H⟩ := sN H
                    by_cases c325 : t218 < 0
                    ·rw [if_pos c325] at H
                     have c325b0 : decide (t218 < 0) = true := decide_eq_true c325
                     clear c325
                     exact absurd (hr_.symm.trans (Option.some.inj H).symm) (by decide)
                    ·rw [if_neg c325] at H
                     have c325b0 : decide (t218 < 0) = false := decide_eq_false c325
                     clear c325
                     by_cases c332 : t218 = t183
                     ·rw [if_pos c332] at H
                      have c332b0 : (t218 == t183) = true := beq_iff_eq.mpr c332
                      have c332b1 : (t218 != t183) = false := bne_eq_false_iff_eq.mpr c332
                      clear c332
                      obtain rfl := Option.some.inj H
                      have := NB154_101.out
                      have := NB101_154.out
                      have := NB154_128.out
                      have := NB128_154.out
                      have := NB154_136.out
                      have := NB136_154.out
                      have := NB154_212.out
                      have := NB212_154.out
                      obtain ⟨_, _, _, _, _, _⟩ := sD3 BK154
                      go_wp2_with (first | ((with_reducible refine gate_callee (f := 19) rfl ?_); refine goesL_ (some 177) rfl rfl Try.func19 (by kernel_rfl) rfl #[.agg #[.int .i64 t140, .slice Ao52 t179.length co52, .slice Ao53 t180.length co53], .int .i64 1] rfl sG ?_; (with_reducible refine (laws_heldSender.calls kj221 t140 _ _ t179 _ _ t180 1 t216 _ ?side1 ?side2 ?side3 ?side4 A308.out).mono ?_); (case side1 => exact sK (Kd.R_reads' HO_155001.out).2.2); (case side2 => exact (Kd.R_reads' HO_155001.out).2.1); (case side3 => exact sK (Kd.R_reads' HO_155002.out).2.2); (case side4 => exact (Kd.R_reads' HO_155002.out).2.1); rintro e w338 ⟨rfl, hb⟩; refine ⟨_, rfl, ?_⟩; replace HO_13 := sS HO_13 hb; replace HO_14 := sS HO_14 hb; replace HO_129001 := sS HO_129001 hb; replace HO_129002 := sS HO_129002 hb; replace HO_137001 := sS HO_137001 hb; replace HO_137002 := sS HO_137002 hb; replace HO_155001 := sS HO_155001 hb; replace HO_155002 := sS HO_155002 hb; replace HO_213001 := sS HO_213001 hb; replace HO_213002 := sS HO_213002 hb; replace BK101 := sJ BK101 hb; replace BK128 := sJ BK128 hb; replace BK136 := sJ BK136 hb; replace BK154 := sJ BK154 hb; replace BK212 := sJ BK212 hb; replace HB := sA (below_step sH hb); (try clear hb); (try clear hb2); (try clear hk); (try clear hi)) | ((with_reducible refine gate_callee (f := 16) rfl ?_); refine goesL_ (some 182) rfl rfl Try.func16 (by kernel_rfl) rfl #[.slice Ao228 t182.length co228, .int .i64 t216] rfl sG ?_; (with_reducible refine (laws_heldIntS.calls kj221 _ _ t182 t216 t217 _ ?side1 ?side2 A316.out).mono ?_); (case side1 => exact sK (Kd.R_reads' HO_13.out).2.2); (case side2 => exact (Kd.R_reads' HO_13.out).2.1); rintro e w' ⟨rfl, ⟨nd, rfl⟩⟩; refine ⟨_, rfl, ?_⟩) | ((with_reducible refine gate_callee (f := 16) rfl ?_); refine goesL_ (some 187) rfl rfl Try.func16 (by kernel_rfl) rfl #[.slice Ao230 t184.length co230, .int .i64 t217] rfl sG ?_; (with_reducible refine (laws_heldIntS.calls kj221 _ _ t184 t217 t218 _ ?side1 ?side2 A324.out).mono ?_); (case side1 => exact sK (Kd.R_reads' HO_14.out).2.2); (case side2 => exact (Kd.R_reads' HO_14.out).2.1); rintro e w' ⟨rfl, ⟨nd, rfl⟩⟩; refine ⟨_, rfl, ?_⟩))
                      go_ret
                      exact ⟨by first | rfl | (simp [errW_none, errW_some] <;> rfl) | (simp [*, errW_none, errW_some] <;> rfl), by repeat (first | (with_reducible first | exact HB.out | apply sLA | apply sLN | apply sLD | refine sLS ?_ GE101.out | refine sLS ?_ GE128.out | refine sLS ?_ GE136.out | refine sLS ?_ GE154.out | refine sLS ?_ GE212.out) | exact HB.out)⟩
                     ·rw [if_neg c332] at H
                      have c332b0 : (t218 == t183) = false := beq_eq_false_iff_ne.mpr c332
                      have c332b1 : (t218 != t183) = true := bne_iff_ne.mpr c332
                      exact absurd (hr_.symm.trans (Option.some.inj H).symm) (by decide)
              ·rw [if_neg c218] at H
               have c218b0 : (t187 == t183) = false := beq_eq_false_iff_ne.mpr c218
               have c218b1 : (t187 != t183) = true := bne_iff_ne.mpr c218
               exact absurd (hr_.symm.trans (Option.some.inj H).symm) (by decide)
       ·replace c108 := Bool.eq_false_iff.mpr c108
        subst c108
        replace H := sX H
        exact absurd (hr_.symm.trans (Option.some.inj H).symm) (by decide)
      ·replace c105 := Bool.eq_false_iff.mpr c105
       subst c105
       replace H := sX H
       exact absurd (hr_.symm.trans (Option.some.inj H).symm) (by decide)

end Go.Proofs.Ytligcknlmbgbiaa.P

/- Reading of arguments by kind: what the row's reader can read is a value of the printed kind. -/
namespace Go.Proofs.Ytligcknlmbgbiaa.Opn
open Go.RowKit Go.Proofs.YtligcknlmbgbiaaW.PrintWords

structure Opens {α : Type} (P : Program) (t : TypeId) (d : Kd α) (wf : α → Prop) : Prop where
 out : ∀ {H : Type} (enc : TypeId × Value → H) (W : World) (fuel : Nat) (cs : List Value) (x : DataW H × List MemPlace),
  DataW.trod enc P W 0 (fun _ => true) true fuel t cs = some x → ∃ y, d.K W y cs ∧ wf y

def wfI (x : Int) : Prop := -9223372036854775808 ≤ x ∧ x ≤ 9223372036854775807
def wfL {α : Type} (wf : α → Prop) (l : List α) : Prop := l.length ≤ 9223372036854775807 ∧ ∀ x, x ∈ l → wf x

theorem wfI_of {x : Int} (hw : (Lit.int .i64 x).wf = true) : wfI x := by
 simp [Lit.wf] at hw
 exact ⟨by simpa [IntKind.min, IntKind.signed, IntKind.bits] using hw.1, by simpa [IntKind.max, IntKind.signed, IntKind.bits] using hw.2⟩
theorem opens_int {P : Program} {t : TypeId} (h : P.underlying t = some (.int .i64)) : Opens P t (Kd.int .i64) wfI := by
 refine ⟨?_⟩
 intro H enc W fuel cs x hx
 obtain ⟨n, rfl, _, hw⟩ := DataW.trod_int h hx
 exact ⟨n, rfl, wfI_of hw⟩
theorem add_add_ (ad : Addr) (m j : Nat) : (ad.add m).add j = ad.add (m + j) := by
 unfold Addr.add
 by_cases hm : m = 0
 ·subst hm; simp
 ·by_cases hj : j = 0
  ·subst hj; simp [hm]
  ·simp [hm, hj, Nat.add_assoc]

theorem opens_slice {P : Program} {t e : TypeId} {α : Type} {d : Kd α} {wf : α → Prop} (h : P.underlying t = some (.slice e)) (hsz : P.cellsOf e = d.sz) (ho : Opens P e d wf) : Opens P t (Kd.slice e d) (wfL wf) := by
 refine ⟨?_⟩
 intro H enc W fuel cs x hx
 rcases DataW.trod_slice h hx with ⟨rfl, _⟩ | ⟨a, len, cap, elems, rest, n, _, rfl, _, _, hl, hm, hlen, hel, _, _⟩
 ·exact ⟨[], ⟨none, 0, rfl, Nat.le_refl _, rfl, by simp, fun hp => absurd hp (by simp)⟩, by simp, fun x hx => by simp at hx⟩
 ·have hm' : len ≤ 9223372036854775807 := by simp only [maxLen] at hm; omega
  have each : ∀ i, i < len → ∃ y c, c.length = d.sz ∧ d.K W y c ∧ wf y ∧ ∀ j u, c[j]? = some u → W.cell? (a.add (i * d.sz + j)) = some u := by
   intro i hi
   have h1 := hel i hi
   rw [List.getElem?_eq_getElem (by omega)] at h1
   obtain ⟨c, hc, hd⟩ := Option.bind_eq_some_iff.1 h1
   obtain ⟨y, hy, hw⟩ := ho.out enc W n c _ hd
   obtain ⟨_, hcl, hcc⟩ := World.cells?_some hc
   refine ⟨y, c, by rw [hcl, hsz], hy, hw, fun j u hu => ?_⟩
   have hj : j < P.cellsOf e := by have := (List.getElem?_eq_some_iff.1 hu).1; omega
   have := hcc j hj
   rw [hu, add_add_, hsz] at this
   exact this
  have build : ∀ k, k ≤ len → ∃ ys : List α, ys.length = k ∧ (∀ y, y ∈ ys → wf y) ∧ ∀ j p, ys[j]? = some p → ∃ c, c.length = d.sz ∧ d.K W p c ∧ ∀ i u, c[i]? = some u → W.cell? (a.add (j * d.sz + i)) = some u := by
   intro k
   induction k with
   | zero => intro _; exact ⟨[], rfl, by simp, by simp⟩
   | succ k ih =>
    intro hk
    obtain ⟨ys, hlys, hw, hy⟩ := ih (by omega)
    obtain ⟨y, c, hcl, hK, hwy, hcell⟩ := each k (by omega)
    refine ⟨ys ++ [y], by simp [hlys], fun z hz => ?_, fun j p hp => ?_⟩
    ·rcases List.mem_append.1 hz with hz | hz
     ·exact hw z hz
     ·rw [List.mem_singleton.1 hz]; exact hwy
    ·rcases Nat.lt_or_ge j ys.length with hj | hj
     ·rw [List.getElem?_append_left hj] at hp
      exact hy j p hp
     ·have hj' : j = ys.length := by
       have := (List.getElem?_eq_some_iff.1 hp).1
       simp at this
       omega
      subst hj'
      have hp' : y = p := by simpa using hp
      subst hp'
      rw [hlys]
      exact ⟨c, hcl, hK, hcell⟩
  obtain ⟨ys, hlys, hw, hy⟩ := build len (Nat.le_refl _)
  subst hlys
  exact ⟨ys, ⟨some a, cap, rfl, hl, rfl, hm', fun _ => ⟨a, rfl, hy⟩⟩, hm', hw⟩

/-- the fields of a struct from an offset on -/
structure OpensF {α : Type} (P : Program) (fs : List Field) (off : Nat) (d : Kd α) (wf : α → Prop) : Prop where
 out : ∀ {H : Type} (enc : TypeId × Value → H) (W : World) (fuel : Nat) (cs : List Value), cs.length = off + d.sz →
  (∀ (i : Nat) (f : Field), fs[i]? = some f → ∃ y, DataW.trod enc P W 0 (fun _ => true) true fuel f.type ((cs.drop f.offset).take (P.cellsOf f.type)) = some y) →
  ∃ y, d.K W y (cs.drop off) ∧ wf y

theorem opens_last {P : Program} {f : Field} {off : Nat} {α : Type} {d : Kd α} {wf : α → Prop} (hoff : f.offset = off) (hsz : P.cellsOf f.type = d.sz) (ho : Opens P f.type d wf) : OpensF P [f] off d wf := by
 refine ⟨?_⟩
 intro H enc W fuel cs hl hf
 obtain ⟨y, hy⟩ := hf 0 f rfl
 rw [hoff, hsz, List.take_of_length_le (by rw [List.length_drop]; omega)] at hy
 exact ho.out enc W fuel _ _ hy

theorem opens_cons {P : Program} {f : Field} {fs : List Field} {off : Nat} {α β : Type} {a : Kd α} {b : Kd β} {wa : α → Prop} {wb : β → Prop} (hoff : f.offset = off) (hsz : P.cellsOf f.type = a.sz)
  (ha : Opens P f.type a wa) (hb : OpensF P fs (off + a.sz) b wb) : OpensF P (f :: fs) off (Kd.pair a b) (fun x => wa x.1 ∧ wb x.2) := by
 refine ⟨?_⟩
 intro H enc W fuel cs hl hf
 have hl' : cs.length = off + (a.sz + b.sz) := hl
 obtain ⟨y, hy⟩ := hf 0 f rfl
 rw [hoff, hsz] at hy
 obtain ⟨p, hp, hwp⟩ := ha.out enc W fuel _ _ hy
 obtain ⟨q, hq, hwq⟩ := hb.out enc W fuel cs (by omega) (fun i g hg => hf (i + 1) g (by simpa using hg))
 refine ⟨(p, q), ⟨(cs.drop off).take a.sz, cs.drop (off + a.sz), ?_, hp, hq⟩, hwp, hwq⟩
 rw [← List.drop_drop, List.take_append_drop]

theorem opens_struct {P : Program} {t : TypeId} {fs : Array Field} {α β : Type} {d : Kd α} {f : β → α} {wf : α → Prop} (hT : P.underlying t = some (.struct fs)) (hsz : P.cellsOf t = d.sz) (g : α → β) (hg : ∀ y, f (g y) = y)
  (ho : OpensF P fs.toList 0 d wf) : Opens P t (Kd.iso d f) (fun x => wf (f x)) := by
 refine ⟨?_⟩
 intro H enc W fuel cs x hx
 obtain ⟨xs, n, _, _, hl, hlen, hf⟩ := DataW.trod_struct hT hx
 obtain ⟨y, hy, hw⟩ := ho.out enc W n cs (by omega) (fun i q hq => ⟨_, (hf i q (by simpa using hq)).trans (List.getElem?_eq_getElem (by
  have := (List.getElem?_eq_some_iff.1 hq).1
  simp at this hlen
  omega))⟩)
 refine ⟨g y, ?_, ?_⟩
 ·show d.K W (f (g y)) cs
  rw [hg]
  exact hy
 ·show wf (f (g y))
  rw [hg]
  exact hw

end Go.Proofs.Ytligcknlmbgbiaa.Opn

namespace Go.Proofs.Ytligcknlmbgbiaa.P
open Go.RowKit Go.Proofs.YtligcknlmbgbiaaW.PrintWords Go.Proofs.YtligcknlmbgbiaaW.PrintLast Go.Proofs.YtligcknlmbgbiaaW.PrintMore Go.Proofs.Ytligcknlmbgbiaa.Opn
set_option linter.unusedVariables false

theorem opens3 : Opens Try.prog 3 (Kd.int .i64) wfI := opens_int Try.underlying3
def wf62 (x : S62) : Prop := wfI x.f0 ∧ wfI x.f1
theorem opens62 : Opens Try.prog 62 k62 wf62 := by
 have h := opens_struct (f := (fun x : S62 => (x.f0, x.f1))) Try.underlying62 (by kernel_rfl) (fun y => ⟨y.1, y.2⟩) (fun _ => rfl) (opens_cons rfl (by kernel_rfl) opens3 (opens_last rfl (by kernel_rfl) opens3))
 exact ⟨h.out⟩
theorem opens22 : Opens Try.prog 22 (Kd.slice 62 k62) (wfL wf62) := opens_slice Try.underlying22 (by kernel_rfl) opens62
theorem opens23 : Opens Try.prog 23 (Kd.slice 3 (Kd.int .i64)) (wfL wfI) := opens_slice Try.underlying23 (by kernel_rfl) opens3
def wf25 (x : S25) : Prop := wfI x.f0 ∧ (wfL wf62) x.f1 ∧ (wfL wfI) x.f2
theorem opens25 : Opens Try.prog 25 k25 wf25 := by
 have h := opens_struct (f := (fun x : S25 => (x.f0, x.f1, x.f2))) Try.underlying25 (by kernel_rfl) (fun y => ⟨y.1, y.2.1, y.2.2⟩) (fun _ => rfl) (opens_cons rfl (by kernel_rfl) opens3 (opens_cons rfl (by kernel_rfl) opens22 (opens_last rfl (by kernel_rfl) opens23)))
 exact ⟨h.out⟩

end Go.Proofs.Ytligcknlmbgbiaa.P

namespace Go.Proofs.Ytligcknlmbgbiaa.P
open Go.RowKit Go.Proofs.YtligcknlmbgbiaaW.PrintWords Go.Proofs.YtligcknlmbgbiaaW.PrintLast Go.Proofs.YtligcknlmbgbiaaW.PrintMore Go.Proofs.Ytligcknlmbgbiaa.Opn
set_option linter.unusedVariables false

def laws_FnExactHearSpans.Pure : Prop := ∀ (a0_0 : Int) (l0_1 : List (S62)) (l0_2 : List Int) (l1 : List (S62)), wfI a0_0 → (wfL wf62) l0_1 → (wfL wfI) l0_2 → (wfL wf62) l1 → ∃ k, laws_FnExactHearSpans.f k a0_0 l0_1 l0_2 l1 = some true

end Go.Proofs.Ytligcknlmbgbiaa.P

namespace Go.Proofs.Ytligcknlmbgbiaa.Pure
open Go.RowKit Go.Proofs.Ytligcknlmbgbiaa.P Go.Proofs.YtligcknlmbgbiaaW.PrintWords Go.Proofs.YtligcknlmbgbiaaW.PrintLast Go.Proofs.Ytligcknlmbgbiaa.Opn
set_option linter.unusedVariables false
set_option linter.unusedSimpArgs false

theorem wrap_id {x : Int} (h0 : -9223372036854775808 ≤ x) (h1 : x ≤ 9223372036854775807) : wrap64 x = x := by
 unfold wrap64
 omega
theorem rd_nat (l : List Int) (i : Nat) (h : i < l.length) : rd l (i : Int) = l[i] := by
 simp [rd, List.getD_eq_getElem?_getD, List.getElem?_eq_getElem h]
theorem drop_rd (l : List Int) (i : Nat) (h : i < l.length) : l.drop i = rd l (i : Int) :: l.drop (i + 1) := by
 rw [List.drop_eq_getElem_cons h, rd_nat l i h]
theorem take_rd (l : List Int) (i : Nat) (h : i < l.length) : l.take (i + 1) = l.take i ++ [rd l (i : Int)] := by
 rw [List.take_succ_eq_append_getElem h, rd_nat l i h]
theorem take_set_succ {α : Type} (l : List α) (i : Nat) (h : i < l.length) (v : α) : (l.set i v).take (i + 1) = l.take i ++ [v] := by
 rw [List.take_succ_eq_append_getElem (by simpa using h)]
 rw [List.getElem_set_self, List.take_set_of_le (Nat.le_refl i)]
theorem round {k d : Nat} (h : d < k) : ∃ m, k = m + 1 := ⟨k - 1, by omega⟩
def marks (a : Int) : Nat → List Int
 | 0 => []
 | n + 1 => a :: marks (a + 1) n
theorem marks_length (a : Int) (n : Nat) : (marks a n).length = n := by
 induction n generalizing a with
 | zero => rfl
 | succ n ih => simp [marks, ih]
theorem marks_rd (n : Nat) : ∀ (a : Int) (i : Nat), i < n → rd (marks a n) (i : Int) = a + i := by
 induction n with
 | zero => intro a i h; omega
 | succ n ih =>
  intro a i h
  cases i with
  | zero => simp [marks, rd]
  | succ i =>
   have := ih (a + 1) i (by omega)
   simp only [marks, rd, Int.toNat_natCast, List.getD_cons_succ] at this ⊢
   rw [this]
   push_cast
   omega
theorem marks_snoc (n : Nat) : ∀ (a : Int), marks a (n + 1) = marks a n ++ [a + n] := by
 induction n with
 | zero => intro a; simp [marks]
 | succ n ih =>
  intro a
  rw [marks, ih (a + 1)]
  simp only [marks, List.cons_append, List.cons.injEq, true_and]
  congr 2
  push_cast
  omega

end Go.Proofs.Ytligcknlmbgbiaa.Pure

namespace Go.Proofs.Ytligcknlmbgbiaa.Pure
open Go.RowKit Go.Proofs.Ytligcknlmbgbiaa.P Go.Proofs.YtligcknlmbgbiaaW.PrintWords Go.Proofs.YtligcknlmbgbiaaW.PrintLast Go.Proofs.Ytligcknlmbgbiaa.Opn
set_option linter.unusedVariables false
set_option linter.unusedSimpArgs false

theorem spec_in (a b c : Int) : spec_l1In.f a b c = some (decide (b ≤ a ∧ a ≤ c)) := by
 unfold spec_l1In.f
 by_cases h : a ≥ b
 ·rw [if_pos h]
  by_cases h2 : a ≤ c
  ·simp [h, h2]
  ·simp [h2]
 ·rw [if_neg h]
  have : ¬ b ≤ a := by omega
  simp [this]
theorem impl_in_ (a b c : Int) : impl_in.f a b c = some (decide (b ≤ a ∧ a ≤ c)) := spec_in a b c

end Go.Proofs.Ytligcknlmbgbiaa.Pure

namespace Go.Proofs.Ytligcknlmbgbiaa.Pure
open Go.RowKit Go.Proofs.Ytligcknlmbgbiaa.P Go.Proofs.YtligcknlmbgbiaaW.PrintWords Go.Proofs.YtligcknlmbgbiaaW.PrintLast Go.Proofs.Ytligcknlmbgbiaa.Opn
set_option linter.unusedVariables false
set_option linter.unusedSimpArgs false

def cvSpan (x : S62) : S59 := ⟨x.f0, x.f1⟩
theorem rdSpan (l : List S59) (i : Nat) (h : i < l.length) : rd_T59 l (i : Int) = l[i] := by
 simp [rd_T59, List.getD_eq_getElem?_getD, List.getElem?_eq_getElem h]
theorem rdLSpan (l : List S62) (i : Nat) (h : i < l.length) : rd_T62 l (i : Int) = l[i] := by
 simp [rd_T62, List.getD_eq_getElem?_getD, List.getElem?_eq_getElem h]
theorem drop_rdSpan (l : List S59) (i : Nat) (h : i < l.length) : l.drop i = rd_T59 l (i : Int) :: l.drop (i + 1) := by
 rw [List.drop_eq_getElem_cons h, rdSpan l i h]
theorem szSpanS_ok (l : List S62) (a : Int) (ha : 0 ≤ a) (ha2 : a ≤ 1048576) (h : (l.length : Int) ≤ a) : laws_szSpanS.f l a = some (a - l.length) := by
 unfold laws_szSpanS.f
 rw [wrap_id (by omega) (by omega), if_neg (by omega)]
theorem szSpanS_big (l : List S62) (a : Int) (ha : 0 ≤ a) (ha2 : a ≤ 1048576) (hl : l.length ≤ 9223372036854775807) (h : ¬ (l.length : Int) ≤ a) : laws_szSpanS.f l a = some (-1) := by
 unfold laws_szSpanS.f
 rw [wrap_id (by omega) (by omega), if_pos (by omega)]
theorem toSpanS_l0 (x : List S62) (hn : x.length ≤ 1048576) : ∀ (d k i : Nat) (y : List S59), i + d = x.length → d < k → y.length = x.length → y.take i = (x.map cvSpan).take i → laws_toSpanS.l0 k x y (i : Int) = some (x.map cvSpan) := by
 intro d
 induction d with
 | zero =>
  intro k i y hi hk hy ht
  obtain ⟨k, rfl⟩ := round hk
  simp only [laws_toSpanS.l0]
  rw [if_neg (by omega)]
  rw [List.take_of_length_le (by omega), List.take_of_length_le (by simp; omega)] at ht
  rw [ht]
 | succ d ih =>
  intro k i y hi hk hy ht
  obtain ⟨k, rfl⟩ := round hk
  simp only [laws_toSpanS.l0, laws_toSpan.f, Option.bind_some]
  rw [if_pos (by omega), if_pos (by omega), if_pos (by omega), wrap_id (by omega) (by omega), Int.toNat_natCast]
  have := ih k (i + 1) (y.set i (cvSpan (rd_T62 x i))) (by omega) (by omega) (by simpa using hy) (by
   rw [take_set_succ _ _ (by omega), ht, List.take_succ_eq_append_getElem (by simp; omega), rdLSpan x i (by omega), List.getElem_map])
  simpa [cvSpan] using this
theorem toSpanS (x : List S62) (hn : x.length ≤ 1048576) (k : Nat) (hk : x.length < k) : laws_toSpanS.f k x = some (x.map cvSpan) := by
 unfold laws_toSpanS.f
 rw [if_pos (by omega), if_pos (by omega), Int.toNat_natCast]
 exact toSpanS_l0 x hn x.length k 0 _ (by omega) hk (by simp) (by simp)
theorem eqSpan_refl (x : S59) : laws_eqSpan.f x.f0 x.f1 x.f0 x.f1 = some true := by
 unfold laws_eqSpan.f
 simp
theorem eqSpanS_l0 (x : List S59) (hn : x.length ≤ 1048576) : ∀ (d k i : Nat), i + d = x.length → d < k → laws_eqSpanS.l0 k x x (i : Int) = some true := by
 intro d
 induction d with
 | zero =>
  intro k i hi hk
  obtain ⟨k, rfl⟩ := round hk
  simp only [laws_eqSpanS.l0]
  rw [if_neg (by omega)]
 | succ d ih =>
  intro k i hi hk
  obtain ⟨k, rfl⟩ := round hk
  simp only [laws_eqSpanS.l0]
  rw [if_pos (by omega), if_pos (by omega), if_pos (by omega), eqSpan_refl, Option.bind_some, if_pos rfl, wrap_id (by omega) (by omega)]
  have := ih k (i + 1) (by omega) (by omega)
  simpa using this
theorem eqSpanS (x : List S59) (hn : x.length ≤ 1048576) (k : Nat) (hk : x.length < k) : laws_eqSpanS.f k x x = some true := by
 unfold laws_eqSpanS.f
 rw [if_pos rfl]
 exact eqSpanS_l0 x hn x.length k 0 (by omega) hk

end Go.Proofs.Ytligcknlmbgbiaa.Pure

namespace Go.Proofs.Ytligcknlmbgbiaa.Pure
open Go.RowKit Go.Proofs.Ytligcknlmbgbiaa.P Go.Proofs.YtligcknlmbgbiaaW.PrintWords Go.Proofs.YtligcknlmbgbiaaW.PrintLast Go.Proofs.Ytligcknlmbgbiaa.Opn
set_option linter.unusedVariables false
set_option linter.unusedSimpArgs false

abbrev Sp := S59
def isSp (x : Sp) : Bool := decide (0 ≤ x.f0) && (decide (x.f0 < x.f1) && decide (x.f1 ≤ 1000000))
theorem spec_isSp (x : Sp) : spec_l2Span.f x.f0 x.f1 = some (isSp x) := by
 unfold spec_l2Span.f isSp
 by_cases h : x.f0 ≥ 0
 ·have h' : 0 ≤ x.f0 := h
  by_cases h2 : x.f0 < x.f1
  ·simp [h', h2]
  ·simp [h2]
 ·have h' : ¬ 0 ≤ x.f0 := h
  simp [h']
theorem impl_isSp (x : Sp) : impl_isSpan.f x.f0 x.f1 = some (isSp x) := spec_isSp x
def aft (p : Option Int) (x : Int) : Bool := match p with
 | none => true
 | some q => decide (q < x)
def spOk : Option Int → List Sp → Bool
 | _, [] => true
 | p, x :: l => isSp x && (aft p x.f0 && spOk (some x.f1) l)
def pvS (l : List Sp) (i : Nat) : Option Int := if i = 0 then none else some (rd_T59 l ((i - 1 : Nat) : Int)).f1
theorem pvS_succ (l : List Sp) (i : Nat) : pvS l (i + 1) = some (rd_T59 l (i : Int)).f1 := by simp [pvS]
theorem goodSpans_l0 (l : List Sp) (hn : l.length ≤ 1048576) : ∀ (d k i : Nat), i + d = l.length → d < k → spec_GoodSpans.l0 k l l (l.length : Int) (i : Int) = some (spOk (pvS l i) (l.drop i) && decide ((l.length : Int) ≤ 20)) := by
 intro d
 induction d with
 | zero =>
  intro k i h hk
  obtain ⟨k, rfl⟩ := round hk
  rw [spec_GoodSpans.l0, if_neg (by omega), List.drop_of_length_le (by omega)]
  simp [spOk]
 | succ d ih =>
  intro k i h hk
  obtain ⟨k, rfl⟩ := round hk
  have := ih k (i + 1) (by omega) (by omega)
  rw [spec_GoodSpans.l0, if_pos (by omega), if_pos (by omega), if_pos (by omega), spec_isSp, Option.bind_some, drop_rdSpan l i (by omega), spOk, wrap_id (x := (i : Int) + 1) (by omega) (by omega)]
  rw [pvS_succ] at this
  have e : ((i + 1 : Nat) : Int) = (i : Int) + 1 := by omega
  rw [e] at this
  rw [this]
  cases hs : isSp (rd_T59 l (i : Int)) with
  | false => simp
  | true =>
   rw [if_pos rfl]
   by_cases h0 : i = 0
   ·subst h0
    simp [pvS, aft]
   ·have e1 : wrap64 ((i : Int) - 1) = ((i - 1 : Nat) : Int) := by rw [wrap_id (by omega) (by omega)]; omega
    rw [if_pos (by omega), e1, if_pos (by omega), if_pos (by omega)]
    unfold pvS
    rw [if_neg h0]
    by_cases hq : (rd_T59 l ((i - 1 : Nat) : Int)).f1 ≥ (rd_T59 l (i : Int)).f0
    ·rw [if_pos hq]
     have : ¬ (rd_T59 l ((i - 1 : Nat) : Int)).f1 < (rd_T59 l (i : Int)).f0 := by omega
     simp [aft, this]
    ·rw [if_neg hq]
     have : (rd_T59 l ((i - 1 : Nat) : Int)).f1 < (rd_T59 l (i : Int)).f0 := by omega
     simp [aft, this]
theorem areSpans_l0 (l : List Sp) (hn : l.length ≤ 1048576) : ∀ (d k i : Nat), i + d = l.length → d < k → impl_areSpans.l0 k l l (l.length : Int) (i : Int) = some (spOk (pvS l i) (l.drop i)) := by
 intro d
 induction d with
 | zero =>
  intro k i h hk
  obtain ⟨k, rfl⟩ := round hk
  rw [impl_areSpans.l0, if_neg (by omega), List.drop_of_length_le (by omega)]
  simp [spOk]
 | succ d ih =>
  intro k i h hk
  obtain ⟨k, rfl⟩ := round hk
  have := ih k (i + 1) (by omega) (by omega)
  rw [impl_areSpans.l0, if_pos (by omega), if_pos (by omega), if_pos (by omega), impl_isSp, Option.bind_some, drop_rdSpan l i (by omega), spOk, wrap_id (x := (i : Int) + 1) (by omega) (by omega)]
  rw [pvS_succ] at this
  have e : ((i + 1 : Nat) : Int) = (i : Int) + 1 := by omega
  rw [e] at this
  rw [this]
  cases hs : isSp (rd_T59 l (i : Int)) with
  | false => simp
  | true =>
   rw [if_pos rfl]
   by_cases h0 : i = 0
   ·subst h0
    simp [pvS, aft]
   ·have e1 : wrap64 ((i : Int) - 1) = ((i - 1 : Nat) : Int) := by rw [wrap_id (by omega) (by omega)]; omega
    rw [if_pos (by omega), e1, if_pos (by omega), if_pos (by omega)]
    unfold pvS
    rw [if_neg h0]
    by_cases hq : (rd_T59 l (i : Int)).f0 ≤ (rd_T59 l ((i - 1 : Nat) : Int)).f1
    ·rw [if_pos hq]
     have : ¬ (rd_T59 l ((i - 1 : Nat) : Int)).f1 < (rd_T59 l (i : Int)).f0 := by omega
     simp [aft, this]
    ·rw [if_neg hq]
     have : (rd_T59 l ((i - 1 : Nat) : Int)).f1 < (rd_T59 l (i : Int)).f0 := by omega
     simp [aft, this]
def goodSp (l : List Sp) : Bool := spOk none l && decide ((l.length : Int) ≤ 20)
theorem spec_goodSp (l : List Sp) (hn : l.length ≤ 1048576) (k : Nat) (hk : l.length < k) : spec_GoodSpans.f k l = some (goodSp l) := by
 unfold spec_GoodSpans.f
 have := goodSpans_l0 l hn l.length k 0 (by omega) hk
 simpa [pvS, goodSp] using this
theorem impl_goodSp (l : List Sp) (hn : l.length ≤ 1048576) (k : Nat) (hk : l.length < k) : impl_areSpans.f k l = some (goodSp l) := by
 unfold impl_areSpans.f goodSp
 have := areSpans_l0 l hn l.length k 0 (by omega) hk
 by_cases h : (l.length : Int) > 20
 ·have h' : ¬ (l.length : Int) ≤ 20 := by omega
  simp [h, h']
 ·have h' : (l.length : Int) ≤ 20 := by omega
  rw [if_neg h]
  simpa [pvS, h'] using this
def belowSp (l : List Sp) (a : Int) : Bool := goodSp l && (decide (l.length = 0) || decide ((rd_T59 l ((l.length : Int) - 1)).f1 ≤ a))
theorem spec_below (l : List Sp) (a : Int) (hn : l.length ≤ 1048576) (k : Nat) (hk : l.length < k) : spec_l11Below.f k l a = some (belowSp l a) := by
 unfold spec_l11Below.f belowSp
 rw [spec_goodSp l hn k hk, Option.bind_some, wrap_id (x := (l.length : Int) - 1) (by omega) (by omega)]
 cases goodSp l with
 | false => simp
 | true =>
  rw [if_pos rfl]
  by_cases h0 : l.length = 0
  ·rw [if_pos (by omega)]
   simp [h0]
  ·rw [if_neg (by omega), if_pos (by omega), if_pos (by omega)]
   simp only [h0, decide_false, Bool.false_or, Bool.true_and]
theorem impl_below (l : List Sp) (a : Int) (hn : l.length ≤ 1048576) (k : Nat) (hk : l.length < k) : impl_areBelow.f k l a = some (belowSp l a) := by
 unfold impl_areBelow.f belowSp
 rw [impl_goodSp l hn k hk, Option.bind_some, wrap_id (x := (l.length : Int) - 1) (by omega) (by omega)]
 cases goodSp l with
 | false => simp
 | true =>
  rw [if_pos rfl]
  by_cases h0 : l.length = 0
  ·rw [if_pos (by omega)]
   simp [h0]
  ·rw [if_neg (by omega), if_pos (by omega), if_pos (by omega)]
   simp only [h0, decide_false, Bool.false_or, Bool.true_and]
theorem l2Has_l0 (l : List Sp) (n : Int) (hn : l.length ≤ 1048576) : ∀ (d k i : Nat), i + d = l.length → d < k → spec_l2Has.l0 k n l (l.length : Int) (i : Int) = some ((l.drop i).any (inSpan n)) := by
 intro d
 induction d with
 | zero =>
  intro k i h hk
  obtain ⟨k, rfl⟩ := round hk
  rw [spec_l2Has.l0, if_neg (by omega), List.drop_of_length_le (by omega)]
  rfl
 | succ d ih =>
  intro k i h hk
  obtain ⟨k, rfl⟩ := round hk
  have := ih k (i + 1) (by omega) (by omega)
  have e : ((i + 1 : Nat) : Int) = (i : Int) + 1 := by omega
  rw [e] at this
  rw [spec_l2Has.l0, if_pos (by omega), if_pos (by omega), if_pos (by omega), drop_rdSpan l i (by omega), List.any_cons, wrap_id (x := (i : Int) + 1) (by omega) (by omega), this]
  unfold inSpan
  by_cases h1 : n ≥ (rd_T59 l (i : Int)).f0
  ·by_cases h2 : n < (rd_T59 l (i : Int)).f1
   ·rw [if_pos h1, if_pos h2]
    simp [h1, h2]
   ·rw [if_pos h1, if_neg h2]
    simp [h2]
  ·rw [if_neg h1]
   simp [h1]
theorem l2Has (l : List Sp) (n : Int) (hn : l.length ≤ 1048576) (k : Nat) (hk : l.length < k) : spec_l2Has.f k l n = some (l.any (inSpan n)) := by
 unfold spec_l2Has.f
 have := l2Has_l0 l n hn l.length k 0 (by omega) hk
 simpa using this

end Go.Proofs.Ytligcknlmbgbiaa.Pure

namespace Go.Proofs.Ytligcknlmbgbiaa.Pure
open Go.RowKit Go.Proofs.Ytligcknlmbgbiaa.P Go.Proofs.YtligcknlmbgbiaaW.PrintWords Go.Proofs.YtligcknlmbgbiaaW.PrintLast Go.Proofs.Ytligcknlmbgbiaa.Opn
set_option linter.unusedVariables false
set_option linter.unusedSimpArgs false

theorem toIntS_l0 (x : List Int) (hn : x.length ≤ 1048576) : ∀ (d k i : Nat) (y : List Int), i + d = x.length → d < k → y.length = x.length → y.take i = x.take i → laws_toIntS.l0 k x y (i : Int) = some x := by
 intro d
 induction d with
 | zero =>
  intro k i y hi hk hy ht
  obtain ⟨k, rfl⟩ := round hk
  simp only [laws_toIntS.l0]
  rw [if_neg (by omega)]
  have : i = x.length := by omega
  subst this
  rw [List.take_length, ← hy, List.take_length] at ht
  rw [ht]
 | succ d ih =>
  intro k i y hi hk hy ht
  obtain ⟨k, rfl⟩ := round hk
  simp only [laws_toIntS.l0]
  rw [if_pos (by omega), if_pos (by omega), if_pos (by omega), wrap_id (by omega) (by omega), Int.toNat_natCast]
  have := ih k (i + 1) (y.set i (rd x i)) (by omega) (by omega) (by simpa using hy) (by rw [take_set_succ _ _ (by omega), ht, take_rd _ _ (by omega)])
  simpa using this
theorem toIntS (x : List Int) (hn : x.length ≤ 1048576) (k : Nat) (hk : x.length < k) : laws_toIntS.f k x = some x := by
 unfold laws_toIntS.f
 rw [if_pos (by omega), if_pos (by omega), Int.toNat_natCast]
 exact toIntS_l0 x hn x.length k 0 _ (by omega) hk (by simp) (by simp)
theorem eqIntS_l0 (x y : List Int) (hn : x.length ≤ 1048576) (he : x.length = y.length) : ∀ (d k i : Nat), i + d = x.length → d < k → x.take i = y.take i → laws_eqIntS.l0 k x y (i : Int) = some (decide (x = y)) := by
 intro d
 induction d with
 | zero =>
  intro k i hi hk ht
  obtain ⟨k, rfl⟩ := round hk
  simp only [laws_eqIntS.l0]
  rw [if_neg (by omega)]
  have : i = x.length := by omega
  subst this
  rw [List.take_length, he, List.take_length] at ht
  simp [ht]
 | succ d ih =>
  intro k i hi hk ht
  obtain ⟨k, rfl⟩ := round hk
  simp only [laws_eqIntS.l0]
  rw [if_pos (by omega), if_pos (by omega), if_pos (by omega)]
  by_cases hc : rd x (i : Int) = rd y (i : Int)
  ·rw [if_pos hc, wrap_id (by omega) (by omega)]
   have := ih k (i + 1) (by omega) (by omega) (by rw [take_rd _ _ (by omega), take_rd _ _ (by omega), ht, hc])
   simpa using this
  ·rw [if_neg hc]
   have : x ≠ y := by rintro rfl; exact hc rfl
   simp [this]
theorem eqIntS (x y : List Int) (hn : x.length ≤ 1048576) (k : Nat) (hk : x.length < k) : laws_eqIntS.f k x y = some (decide (x = y)) := by
 unfold laws_eqIntS.f
 by_cases he : x.length = y.length
 ·rw [if_pos (by omega)]
  exact eqIntS_l0 x y hn he x.length k 0 (by omega) hk (by simp)
 ·rw [if_neg (by omega)]
  have : x ≠ y := by rintro rfl; exact he rfl
  simp [this]

end Go.Proofs.Ytligcknlmbgbiaa.Pure

namespace Go.Proofs.Ytligcknlmbgbiaa.Pure
open Go.RowKit Go.Proofs.Ytligcknlmbgbiaa.P Go.Proofs.YtligcknlmbgbiaaW.PrintWords Go.Proofs.YtligcknlmbgbiaaW.PrintLast Go.Proofs.Ytligcknlmbgbiaa.Opn
set_option linter.unusedVariables false
set_option linter.unusedSimpArgs false

theorem szIntS (l : List Int) (a : Int) (ha : 0 ≤ a) (ha2 : a ≤ 1048576) (hl : l.length ≤ 9223372036854775807) : laws_szIntS.f l a = some (if (l.length : Int) ≤ a then a - l.length else -1) := by
 unfold laws_szIntS.f
 rw [wrap_id (by omega) (by omega)]
 by_cases h : (l.length : Int) ≤ a
 ·rw [if_neg (by omega), if_pos h]
 ·rw [if_pos (by omega), if_neg h]

end Go.Proofs.Ytligcknlmbgbiaa.Pure

namespace Go.Proofs.Ytligcknlmbgbiaa.Pure
open Go.RowKit Go.Proofs.Ytligcknlmbgbiaa.P Go.Proofs.YtligcknlmbgbiaaW.PrintWords Go.Proofs.YtligcknlmbgbiaaW.PrintLast Go.Proofs.Ytligcknlmbgbiaa.Opn
set_option linter.unusedVariables false
set_option linter.unusedSimpArgs false

theorem szSender_ok (a : Int) (l1 : List S62) (l2 : List Int) (h : (l1.length : Int) + l2.length ≤ 1048576) : laws_szSender.f a l1 l2 1048576 = some (1048576 - (l1.length : Int) - (l2.length : Int)) := by
 unfold laws_szSender.f
 rw [szSpanS_ok l1 _ (by omega) (by omega) (by omega), Option.bind_some, if_neg (by omega), szIntS l2 _ (by omega) (by omega) (by omega), if_pos (by omega), Option.bind_some, if_neg (by omega)]
theorem szSender_big (a : Int) (l1 : List S62) (l2 : List Int) (h1 : l1.length ≤ 9223372036854775807) (h2 : l2.length ≤ 9223372036854775807) (h : ¬ (l1.length : Int) + l2.length ≤ 1048576) : laws_szSender.f a l1 l2 1048576 = some (-1) := by
 unfold laws_szSender.f
 by_cases hc : (l1.length : Int) ≤ 1048576
 ·rw [szSpanS_ok l1 _ (by omega) (by omega) (by omega), Option.bind_some, if_neg (by omega), szIntS l2 _ (by omega) (by omega) h2, if_neg (by omega), Option.bind_some, if_pos (by omega)]
 ·rw [szSpanS_big l1 _ (by omega) (by omega) h1 (by omega), Option.bind_some, if_pos (by omega)]
theorem toSender (a : Int) (l1 : List S62) (l2 : List Int) (h1 : l1.length ≤ 1048576) (h2 : l2.length ≤ 1048576) (k : Nat) (hk1 : l1.length < k) (hk2 : l2.length < k) : laws_toSender.f k a l1 l2 = some (a, l1.map cvSpan, l2) := by
 unfold laws_toSender.f
 rw [toSpanS l1 h1 k hk1, Option.bind_some, toIntS l2 h2 k hk2, Option.bind_some]
theorem eqSender (a : Int) (l1 : List Sp) (l2 : List Int) (h1 : l1.length ≤ 1048576) (h2 : l2.length ≤ 1048576) (k : Nat) (hk1 : l1.length < k) (hk2 : l2.length < k) : laws_eqSender.f k a l1 l2 a l1 l2 = some true := by
 unfold laws_eqSender.f
 rw [if_pos rfl, eqSpanS l1 h1 k hk1, Option.bind_some, if_pos rfl, eqIntS l2 l2 h2 k hk2, Option.bind_some]
 simp
def risOk (m : Int) : Option Int → List Int → Bool
 | _, [] => true
 | p, x :: l => decide (0 ≤ x ∧ x ≤ m) && (aft p x && risOk m (some x) l)
def pvI (l : List Int) (i : Nat) : Option Int := if i = 0 then none else some (rd l ((i - 1 : Nat) : Int))
theorem pvI_succ (l : List Int) (i : Nat) : pvI l (i + 1) = some (rd l (i : Int)) := by simp [pvI]
theorem rising_l0 (l : List Int) (a : Int) (hn : l.length ≤ 1048576) : ∀ (d k i : Nat), i + d = l.length → d < k → spec_l11Rising.l0 k l a l (l.length : Int) (i : Int) = some (risOk (wrap64 (a - 1)) (pvI l i) (l.drop i)) := by
 intro d
 induction d with
 | zero =>
  intro k i h hk
  obtain ⟨k, rfl⟩ := round hk
  rw [spec_l11Rising.l0, if_neg (by omega), List.drop_of_length_le (by omega)]
  rfl
 | succ d ih =>
  intro k i h hk
  obtain ⟨k, rfl⟩ := round hk
  have := ih k (i + 1) (by omega) (by omega)
  rw [spec_l11Rising.l0, if_pos (by omega), if_pos (by omega), if_pos (by omega), spec_in, Option.bind_some, drop_rd l i (by omega), risOk, wrap_id (x := (i : Int) + 1) (by omega) (by omega)]
  have e : ((i + 1 : Nat) : Int) = (i : Int) + 1 := by omega
  rw [pvI_succ, e] at this
  rw [this]
  by_cases hs : 0 ≤ rd l (i : Int) ∧ rd l (i : Int) ≤ wrap64 (a - 1)
  ·rw [if_pos (by simpa using hs)]
   by_cases h0 : i = 0
   ·subst h0
    simp only [hs, and_self, decide_true, Bool.true_and]
    simp [pvI, aft]
   ·have e1 : wrap64 ((i : Int) - 1) = ((i - 1 : Nat) : Int) := by rw [wrap_id (by omega) (by omega)]; omega
    rw [if_pos (by omega), e1, if_pos (by omega), if_pos (by omega)]
    unfold pvI
    rw [if_neg h0]
    simp only [hs, and_self, decide_true, Bool.true_and, aft]
    by_cases hq : rd l ((i - 1 : Nat) : Int) ≥ rd l (i : Int)
    ·rw [if_pos hq]
     have : ¬ rd l ((i - 1 : Nat) : Int) < rd l (i : Int) := by omega
     simp [this]
    ·rw [if_neg hq]
     have : rd l ((i - 1 : Nat) : Int) < rd l (i : Int) := by omega
     simp [this]
  ·rw [if_neg (by simpa using hs)]
   simp [hs]
theorem spec_rising (l : List Int) (a : Int) (hn : l.length ≤ 1048576) (k : Nat) (hk : l.length < k) : spec_l11Rising.f k l a = some (risOk (wrap64 (a - 1)) none l) := by
 unfold spec_l11Rising.f
 have := rising_l0 l a hn l.length k 0 (by omega) hk
 simpa [pvI] using this
theorem specSender_l0 (a : Int) (l1 : List Sp) (l : List Int) (h1 : l1.length ≤ 1048576) (hn : l.length ≤ 1048576) : ∀ (d k i : Nat), i + d = l.length → d + l1.length + 1 < k → spec_GoodSender.l0 k l (l.length : Int) (i : Int) a l1 l = some ((l.drop i).all (fun n => !l1.any (inSpan n))) := by
 intro d
 induction d with
 | zero =>
  intro k i h hk
  obtain ⟨k, rfl⟩ := round hk
  rw [spec_GoodSender.l0, if_neg (by omega), List.drop_of_length_le (by omega)]
  rfl
 | succ d ih =>
  intro k i h hk
  obtain ⟨k, rfl⟩ := round hk
  have := ih k (i + 1) (by omega) (by omega)
  have e : ((i + 1 : Nat) : Int) = (i : Int) + 1 := by omega
  rw [e] at this
  rw [spec_GoodSender.l0, if_pos (by omega), if_pos (by omega), if_pos (by omega), l2Has l1 _ h1 k (by omega), Option.bind_some, drop_rd l i (by omega), List.all_cons, wrap_id (x := (i : Int) + 1) (by omega) (by omega), this]
  cases l1.any (inSpan (rd l (i : Int))) <;> simp
theorem implSender_l0 (a : Int) (l1 : List Sp) (l : List Int) (h1 : l1.length ≤ 1048576) (hn : l.length ≤ 1048576) : ∀ (d k i : Nat), i + d = l.length → d < k → impl_GoodSender.l0 k l (l.length : Int) (i : Int) a l1 l = some (risOk (wrap64 (a - 1)) (pvI l i) (l.drop i) && (l.drop i).all (fun n => !l1.any (inSpan n))) := by
 intro d
 induction d with
 | zero =>
  intro k i h hk
  obtain ⟨k, rfl⟩ := round hk
  rw [impl_GoodSender.l0, if_neg (by omega), List.drop_of_length_le (by omega)]
  rfl
 | succ d ih =>
  intro k i h hk
  obtain ⟨k, rfl⟩ := round hk
  have := ih k (i + 1) (by omega) (by omega)
  have e : ((i + 1 : Nat) : Int) = (i : Int) + 1 := by omega
  rw [pvI_succ, e] at this
  rw [impl_GoodSender.l0, if_pos (by omega), if_pos (by omega), if_pos (by omega), impl_in_, Option.bind_some, drop_rd l i (by omega), List.all_cons, risOk, wrap_id (x := (i : Int) + 1) (by omega) (by omega), this]
  unfold impl_has.f
  simp only [Option.bind_some]
  by_cases hs : 0 ≤ rd l (i : Int) ∧ rd l (i : Int) ≤ wrap64 (a - 1)
  ·rw [if_pos (by simpa using hs)]
   simp only [hs, and_self, decide_true, Bool.true_and]
   cases hh : l1.any (inSpan (rd l (i : Int))) with
   | true => simp
   | false =>
    rw [if_neg (by simp)]
    by_cases h0 : i = 0
    ·subst h0
     simp [pvI, aft]
    ·have e1 : wrap64 ((i : Int) - 1) = ((i - 1 : Nat) : Int) := by rw [wrap_id (by omega) (by omega)]; omega
     rw [if_pos (by omega), e1, if_pos (by omega), if_pos (by omega)]
     unfold pvI
     rw [if_neg h0]
     simp only [aft]
     by_cases hq : rd l (i : Int) ≤ rd l ((i - 1 : Nat) : Int)
     ·rw [if_pos hq]
      have : ¬ rd l ((i - 1 : Nat) : Int) < rd l (i : Int) := by omega
      simp [this]
     ·rw [if_neg hq]
      have : rd l ((i - 1 : Nat) : Int) < rd l (i : Int) := by omega
      simp [this]
  ·rw [if_neg (by simpa using hs)]
   simp [hs]
def goodSe (a : Int) (l1 : List Sp) (l : List Int) : Bool := decide (0 ≤ a ∧ a ≤ 60) && (belowSp l1 a && (risOk (wrap64 (a - 1)) none l && l.all (fun n => !l1.any (inSpan n))))
theorem spec_goodSe (a : Int) (l1 : List Sp) (l : List Int) (h1 : l1.length ≤ 1048576) (hn : l.length ≤ 1048576) (k : Nat) (hk : l.length + l1.length + 2 < k) : spec_GoodSender.f k a l1 l = some (goodSe a l1 l) := by
 obtain ⟨k, rfl⟩ := round hk
 unfold spec_GoodSender.f goodSe
 have h0 := specSender_l0 a l1 l h1 hn l.length k 0 (by omega) (by omega)
 have h0' : spec_GoodSender.l0 k l (l.length : Int) 0 a l1 l = some (l.all (fun n => !l1.any (inSpan n))) := by simpa using h0
 simp only [spec_in, Option.bind_some, spec_below l1 a h1 (k + 1) (by omega), spec_rising l a hn (k + 1) (by omega), spec_GoodSender.j0, h0', if_true]
 by_cases h : 0 ≤ a ∧ a ≤ 60
 ·simp only [h, and_self, decide_true, if_true, Bool.true_and]
  cases belowSp l1 a <;> cases risOk (wrap64 (a - 1)) none l <;> simp
 ·simp [h]
theorem impl_goodSe (a : Int) (l1 : List Sp) (l : List Int) (h1 : l1.length ≤ 1048576) (hn : l.length ≤ 1048576) (k : Nat) (hk : l.length + l1.length + 2 < k) : impl_GoodSender.f k a l1 l = some (goodSe a l1 l) := by
 obtain ⟨k, rfl⟩ := round hk
 unfold impl_GoodSender.f goodSe
 have h0 := implSender_l0 a l1 l h1 hn l.length k 0 (by omega) (by omega)
 have h0' : impl_GoodSender.l0 k l (l.length : Int) 0 a l1 l = some (risOk (wrap64 (a - 1)) none l && l.all (fun n => !l1.any (inSpan n))) := by simpa [pvI] using h0
 simp only [impl_in_, Option.bind_some, impl_below l1 a h1 (k + 1) (by omega), impl_GoodSender.j0, h0', if_true]
 by_cases h : 0 ≤ a ∧ a ≤ 60
 ·simp only [h, and_self, decide_true, if_true, Bool.true_and]
  cases belowSp l1 a <;> simp
 ·simp [h]

end Go.Proofs.Ytligcknlmbgbiaa.Pure

namespace Go.Proofs.Ytligcknlmbgbiaa.Pure
open Go.RowKit Go.Proofs.Ytligcknlmbgbiaa.P Go.Proofs.YtligcknlmbgbiaaW.PrintWords Go.Proofs.YtligcknlmbgbiaaW.PrintLast Go.Proofs.Ytligcknlmbgbiaa.Opn
set_option linter.unusedVariables false
set_option linter.unusedSimpArgs false

theorem l1Has_l0 (l : List Int) (a : Int) (hn : l.length ≤ 1048576) : ∀ (d k i : Nat), i + d = l.length → d < k → spec_l1Has.l0 k a l (l.length : Int) (i : Int) = some (decide (a ∈ l.drop i)) := by
 intro d
 induction d with
 | zero =>
  intro k i h hk
  obtain ⟨k, rfl⟩ := round hk
  simp only [spec_l1Has.l0]
  rw [if_neg (by omega), List.drop_of_length_le (by omega)]
  simp
 | succ d ih =>
  intro k i h hk
  obtain ⟨k, rfl⟩ := round hk
  simp only [spec_l1Has.l0]
  rw [if_pos (by omega), if_pos (by omega), if_pos (by omega), drop_rd l i (by omega)]
  by_cases hc : rd l (i : Int) = a
  ·rw [if_pos hc]
   simp [hc]
  ·rw [if_neg hc, wrap_id (by omega) (by omega)]
   have := ih k (i + 1) (by omega) (by omega)
   have hc' : ¬ a = rd l (i : Int) := fun e => hc e.symm
   simpa [hc'] using this
theorem l1Has (l : List Int) (a : Int) (hn : l.length ≤ 1048576) (k : Nat) (hk : l.length < k) : spec_l1Has.f k l a = some (decide (a ∈ l)) := by
 unfold spec_l1Has.f
 have := l1Has_l0 l a hn l.length k 0 (by omega) hk
 simpa using this
theorem index_l0 (l : List Int) (a : Int) (hn : l.length ≤ 1048576) : ∀ (d k i : Nat), i + d = l.length → d < k → ∃ r, slices_Index_int_int.l0 k l a (l.length : Int) (i : Int) = some r ∧ decide (r ≥ 0) = decide (a ∈ l.drop i) := by
 intro d
 induction d with
 | zero =>
  intro k i h hk
  obtain ⟨k, rfl⟩ := round hk
  refine ⟨-1, ?_, ?_⟩
  ·simp only [slices_Index_int_int.l0]
   rw [if_neg (by omega)]
  ·rw [List.drop_of_length_le (by omega)]
   simp
 | succ d ih =>
  intro k i h hk
  obtain ⟨k, rfl⟩ := round hk
  simp only [slices_Index_int_int.l0]
  rw [if_pos (by omega), if_pos (by omega), if_pos (by omega), drop_rd l i (by omega)]
  by_cases hc : a = rd l (i : Int)
  ·rw [if_pos hc]
   exact ⟨i, rfl, by simp [hc]⟩
  ·rw [if_neg hc, wrap_id (by omega) (by omega)]
   have := ih k (i + 1) (by omega) (by omega)
   simpa [hc] using this
theorem containsI (l : List Int) (a : Int) (hn : l.length ≤ 1048576) (k : Nat) (hk : l.length < k) : slices_Contains_int_int.f k l a = some (decide (a ∈ l)) := by
 unfold slices_Contains_int_int.f slices_Index_int_int.f
 obtain ⟨r, hr, hd⟩ := index_l0 l a hn l.length k 0 (by omega) hk
 have hr' : slices_Index_int_int.l0 k l a (l.length : Int) 0 = some r := by simpa using hr
 rw [hr', Option.bind_some, hd]
 simp

end Go.Proofs.Ytligcknlmbgbiaa.Pure

namespace Go.Proofs.Ytligcknlmbgbiaa.Pure
open Go.RowKit Go.Proofs.Ytligcknlmbgbiaa.P Go.Proofs.YtligcknlmbgbiaaW.PrintWords Go.Proofs.YtligcknlmbgbiaaW.PrintLast Go.Proofs.Ytligcknlmbgbiaa.Opn
set_option linter.unusedVariables false
set_option linter.unusedSimpArgs false

abbrev SpJ := S59
def InS (n : Int) (x : SpJ) : Prop := x.f0 ≤ n ∧ n < x.f1
def Cov (n : Int) (l : List SpJ) : Prop := ∃ x, x ∈ l ∧ InS n x
theorem cov_cons (n : Int) (x : SpJ) (l : List SpJ) : Cov n (x :: l) ↔ InS n x ∨ Cov n l := by
 unfold Cov
 constructor
 ·rintro ⟨z, hz, hi⟩
  rcases List.mem_cons.1 hz with rfl | h
  ·exact .inl hi
  ·exact .inr ⟨z, h, hi⟩
 ·rintro (h | ⟨z, hz, hi⟩)
  ·exact ⟨x, List.mem_cons_self, h⟩
  ·exact ⟨z, List.mem_cons_of_mem _ hz, hi⟩
theorem cov_nil (n : Int) : ¬ Cov n [] := by
 rintro ⟨z, hz, _⟩
 cases hz
theorem cov_append (n : Int) (l l' : List SpJ) : Cov n (l ++ l') ↔ Cov n l ∨ Cov n l' := by
 induction l with
 | nil => simp [cov_nil]
 | cons x l ih => rw [List.cons_append, cov_cons, cov_cons, ih, or_assoc]
theorem cov_perm (n : Int) {l l' : List SpJ} (h : l.Perm l') : Cov n l ↔ Cov n l' :=
 ⟨fun ⟨x, hx, hi⟩ => ⟨x, h.mem_iff.1 hx, hi⟩, fun ⟨x, hx, hi⟩ => ⟨x, h.mem_iff.2 hx, hi⟩⟩
def Nrm : List SpJ → Prop
 | [] => True
 | x :: l => x.f0 < x.f1 ∧ (∀ y, y ∈ l → x.f1 < y.f0) ∧ Nrm l
theorem nrm_valid : ∀ (l : List SpJ), Nrm l → ∀ z, z ∈ l → z.f0 < z.f1 := by
 intro l
 induction l with
 | nil => intro _ z hz; cases hz
 | cons x l ih =>
  intro h z hz
  rcases List.mem_cons.1 hz with rfl | hz
  ·exact h.1
  ·exact ih h.2.2 z hz
theorem nrm_first (x : SpJ) (l : List SpJ) (h : Nrm (x :: l)) (z : SpJ) (hz : z ∈ x :: l) : x.f0 ≤ z.f0 := by
 rcases List.mem_cons.1 hz with rfl | hz
 ·exact Int.le_refl _
 ·have := h.1
  have := h.2.1 z hz
  omega
theorem spj_ext (x y : SpJ) (h0 : x.f0 = y.f0) (h1 : x.f1 = y.f1) : x = y := by
 cases x
 cases y
 cases h0
 cases h1
 rfl
theorem nrm_uniq : ∀ (l1 l2 : List SpJ), Nrm l1 → Nrm l2 → (∀ n, Cov n l1 ↔ Cov n l2) → l1 = l2 := by
 intro l1
 induction l1 with
 | nil =>
  intro l2 _ h2 hc
  cases l2 with
  | nil => rfl
  | cons y s => exact absurd ((hc y.f0).2 ⟨y, List.mem_cons_self, Int.le_refl _, h2.1⟩) (cov_nil _)
 | cons x t ih =>
  intro l2 h1 h2 hc
  cases l2 with
  | nil => exact absurd ((hc x.f0).1 ⟨x, List.mem_cons_self, Int.le_refl _, h1.1⟩) (cov_nil _)
  | cons y s =>
   have hx := h1.1
   have hy := h2.1
   have e0 : x.f0 = y.f0 := by
    obtain ⟨z, hz, hz1, hz2⟩ := (hc x.f0).1 ⟨x, List.mem_cons_self, Int.le_refl _, h1.1⟩
    obtain ⟨w, hw, hw1, hw2⟩ := (hc y.f0).2 ⟨y, List.mem_cons_self, Int.le_refl _, h2.1⟩
    have a := nrm_first y s h2 z hz
    have b := nrm_first x t h1 w hw
    omega
   have e1 : x.f1 = y.f1 := by
    rcases Int.lt_trichotomy x.f1 y.f1 with h | h | h
    ·exfalso
     obtain ⟨z, hz, hz1, hz2⟩ := (hc x.f1).2 ⟨y, List.mem_cons_self, by omega, h⟩
     rcases List.mem_cons.1 hz with rfl | hz
     ·omega
     ·have := h1.2.1 z hz
      omega
    ·exact h
    ·exfalso
     obtain ⟨z, hz, hz1, hz2⟩ := (hc y.f1).1 ⟨x, List.mem_cons_self, by omega, h⟩
     rcases List.mem_cons.1 hz with rfl | hz
     ·omega
     ·have := h2.2.1 z hz
      omega
   have e := spj_ext x y e0 e1
   subst e
   congr 1
   refine ih s h1.2.2 h2.2.2 fun n => ⟨?_, ?_⟩
   ·rintro ⟨z, hz, hz1, hz2⟩
    have hlt := h1.2.1 z hz
    obtain ⟨w, hw, hw1, hw2⟩ := (hc n).1 ⟨z, List.mem_cons_of_mem _ hz, hz1, hz2⟩
    rcases List.mem_cons.1 hw with rfl | hw
    ·omega
    ·exact ⟨w, hw, hw1, hw2⟩
   ·rintro ⟨z, hz, hz1, hz2⟩
    have hlt := h2.2.1 z hz
    obtain ⟨w, hw, hw1, hw2⟩ := (hc n).2 ⟨z, List.mem_cons_of_mem _ hz, hz1, hz2⟩
    rcases List.mem_cons.1 hw with rfl | hw
    ·omega
    ·exact ⟨w, hw, hw1, hw2⟩
def mrgS (x : SpJ) : List SpJ → List SpJ
 | [] => [x]
 | y :: l => if y.f0 ≤ x.f1 then mrgS ⟨min x.f0 y.f0, max x.f1 y.f1⟩ l else x :: y :: l
theorem mrg_ok : ∀ (l : List SpJ) (x : SpJ), x.f0 < x.f1 → Nrm l → (∀ y, y ∈ l → x.f0 ≤ y.f1) → Nrm (mrgS x l) ∧ (∀ c : Int, c < x.f0 → (∀ y, y ∈ l → c < y.f0) → ∀ z, z ∈ mrgS x l → c < z.f0) ∧ (∀ n, Cov n (mrgS x l) ↔ InS n x ∨ Cov n l) := by
 intro l
 induction l with
 | nil =>
  intro x hx _ _
  refine ⟨⟨hx, fun y hy => (by cases hy), trivial⟩, fun c hc _ z hz => ?_, fun n => ?_⟩
  ·rcases List.mem_cons.1 hz with rfl | hz
   ·exact hc
   ·cases hz
  ·rw [mrgS, cov_cons]
 | cons y l ih =>
  intro x hx hN ht
  have hy := hN.1
  have hxy := ht y List.mem_cons_self
  by_cases h : y.f0 ≤ x.f1
  ·have := ih ⟨min x.f0 y.f0, max x.f1 y.f1⟩ (by dsimp only; omega) hN.2.2 (fun z hz => by
    have := ht z (List.mem_cons_of_mem _ hz)
    dsimp only
    omega)
   rw [mrgS, if_pos h]
   refine ⟨this.1, fun c hc hl z hz => this.2.1 c ?_ (fun w hw => hl w (List.mem_cons_of_mem _ hw)) z hz, fun n => ?_⟩
   ·have := hl y List.mem_cons_self
    dsimp only
    omega
   ·rw [this.2.2 n, cov_cons, ← or_assoc]
    refine or_congr ?_ Iff.rfl
    unfold InS
    dsimp only
    omega
  ·rw [mrgS, if_neg h]
   refine ⟨⟨hx, fun z hz => ?_, hN⟩, fun c hc hl z hz => ?_, fun n => cov_cons n x _⟩
   ·rcases List.mem_cons.1 hz with rfl | hz
    ·omega
    ·have := hN.2.1 z hz
     omega
   ·rcases List.mem_cons.1 hz with rfl | hz
    ·exact hc
    ·exact hl z hz
def addS (x : SpJ) : List SpJ → List SpJ
 | [] => [x]
 | y :: l => if y.f1 < x.f0 then y :: addS x l else mrgS x (y :: l)
theorem add_ok (x : SpJ) (hx : x.f0 < x.f1) : ∀ (l : List SpJ), Nrm l → Nrm (addS x l) ∧ (∀ c : Int, c < x.f0 → (∀ y, y ∈ l → c < y.f0) → ∀ z, z ∈ addS x l → c < z.f0) ∧ (∀ n, Cov n (addS x l) ↔ InS n x ∨ Cov n l) := by
 intro l
 induction l with
 | nil => exact fun _ => mrg_ok [] x hx trivial (fun y hy => by cases hy)
 | cons y l ih =>
  intro hN
  by_cases h : y.f1 < x.f0
  ·have := ih hN.2.2
   rw [addS, if_pos h]
   refine ⟨⟨hN.1, this.2.1 y.f1 h hN.2.1, this.1⟩, fun c hc hl z hz => ?_, fun n => ?_⟩
   ·rcases List.mem_cons.1 hz with rfl | hz
    ·exact hl _ List.mem_cons_self
    ·exact this.2.1 c hc (fun w hw => hl w (List.mem_cons_of_mem _ hw)) z hz
   ·rw [cov_cons, cov_cons, this.2.2 n, or_left_comm]
  ·rw [addS, if_neg h]
   refine mrg_ok (y :: l) x hx hN fun z hz => ?_
   rcases List.mem_cons.1 hz with rfl | hz
   ·omega
   ·have := hN.2.1 z hz
    have := nrm_valid l hN.2.2 z hz
    omega
def jnS (cur : SpJ) : List SpJ → List SpJ
 | [] => [cur]
 | x :: l => if x.f0 ≤ cur.f1 then jnS ⟨cur.f0, max cur.f1 x.f1⟩ l else cur :: jnS x l
theorem jn_ok : ∀ (l : List SpJ) (cur : SpJ), cur.f0 < cur.f1 → (∀ x, x ∈ l → x.f0 < x.f1) → (∀ x, x ∈ l → cur.f0 ≤ x.f0) → l.Pairwise (fun a b => a.f0 ≤ b.f0) → Nrm (jnS cur l) ∧ (∀ z, z ∈ jnS cur l → cur.f0 ≤ z.f0) ∧ (∀ n, Cov n (jnS cur l) ↔ InS n cur ∨ Cov n l) := by
 intro l
 induction l with
 | nil =>
  intro cur hc _ _ _
  refine ⟨⟨hc, fun y hy => (by cases hy), trivial⟩, fun z hz => ?_, fun n => by rw [jnS, cov_cons]⟩
  rcases List.mem_cons.1 hz with rfl | hz
  ·exact Int.le_refl _
  ·cases hz
 | cons x l ih =>
  intro cur hc hv hle hp
  have hx := hv x List.mem_cons_self
  have hcx := hle x List.mem_cons_self
  have hp' := List.pairwise_cons.1 hp
  by_cases h : x.f0 ≤ cur.f1
  ·have := ih ⟨cur.f0, max cur.f1 x.f1⟩ (by dsimp only; omega) (fun z hz => hv z (List.mem_cons_of_mem _ hz)) (fun z hz => hle z (List.mem_cons_of_mem _ hz)) hp'.2
   rw [jnS, if_pos h]
   refine ⟨this.1, this.2.1, fun n => ?_⟩
   rw [this.2.2 n, cov_cons, ← or_assoc]
   refine or_congr ?_ Iff.rfl
   unfold InS
   dsimp only
   omega
  ·have := ih x hx (fun z hz => hv z (List.mem_cons_of_mem _ hz)) (fun z hz => hp'.1 z hz) hp'.2
   rw [jnS, if_neg h]
   refine ⟨⟨hc, fun z hz => ?_, this.1⟩, fun z hz => ?_, fun n => ?_⟩
   ·have := this.2.1 z hz
    omega
   ·rcases List.mem_cons.1 hz with rfl | hz
    ·exact Int.le_refl _
    ·have := this.2.1 z hz
     omega
   ·rw [cov_cons, cov_cons, this.2.2 n]
def joinS : List SpJ → List SpJ
 | [] => []
 | x :: l => jnS x l
theorem join_ok (l : List SpJ) (hv : ∀ x, x ∈ l → x.f0 < x.f1) (hp : l.Pairwise (fun a b => a.f0 ≤ b.f0)) : Nrm (joinS l) ∧ ∀ n, Cov n (joinS l) ↔ Cov n l := by
 cases l with
 | nil => exact ⟨trivial, fun n => Iff.rfl⟩
 | cons x l =>
  have hp' := List.pairwise_cons.1 hp
  have := jn_ok l x (hv x List.mem_cons_self) (fun z hz => hv z (List.mem_cons_of_mem _ hz)) (fun z hz => hp'.1 z hz) hp'.2
  exact ⟨this.1, fun n => by rw [cov_cons]; exact this.2.2 n⟩
def sumS (acc l : List SpJ) : List SpJ := l.foldl (fun a x => addS x a) acc
theorem sum_ok : ∀ (l acc : List SpJ), (∀ x, x ∈ l → x.f0 < x.f1) → Nrm acc → Nrm (sumS acc l) ∧ ∀ n, Cov n (sumS acc l) ↔ Cov n acc ∨ Cov n l := by
 intro l
 induction l with
 | nil => exact fun acc _ ha => ⟨ha, fun n => by simp [sumS, cov_nil]⟩
 | cons x l ih =>
  intro acc hv ha
  have h1 := add_ok x (hv x List.mem_cons_self) acc ha
  have h2 := ih (addS x acc) (fun z hz => hv z (List.mem_cons_of_mem _ hz)) h1.1
  refine ⟨h2.1, fun n => ?_⟩
  have := h2.2 n
  rw [h1.2.2 n] at this
  rw [cov_cons]
  refine this.trans ?_
  rw [or_comm (a := InS n x), or_assoc]
/-- Whatever the order in which the spans lie: sorted by their beginnings and joined they are the spans put in one by one. -/
theorem join_perm (l s : List SpJ) (hv : ∀ x, x ∈ l → x.f0 < x.f1) (hp : s.Perm l) (hs : s.Pairwise (fun a b => a.f0 ≤ b.f0)) : joinS s = sumS [] l := by
 have h1 := join_ok s (fun x hx => hv x (hp.mem_iff.1 hx)) hs
 have h2 := sum_ok l [] hv trivial
 refine nrm_uniq _ _ h1.1 h2.1 fun n => ?_
 rw [h1.2 n, h2.2 n, cov_perm n hp]
 simp [cov_nil]
theorem sum_append (a b : List SpJ) (ha : Nrm a) (hb : ∀ x, x ∈ b → x.f0 < x.f1) : sumS [] (a ++ b) = sumS a b := by
 have h1 := sum_ok (a ++ b) [] (fun x hx => (List.mem_append.1 hx).elim (nrm_valid a ha x) (hb x)) trivial
 have h2 := sum_ok b a hb ha
 refine nrm_uniq _ _ h1.1 h2.1 fun n => ?_
 rw [h1.2 n, h2.2 n, cov_append]
 simp [cov_nil]

end Go.Proofs.Ytligcknlmbgbiaa.Pure

namespace Go.Proofs.Ytligcknlmbgbiaa.Pure
open Go.RowKit Go.Proofs.Ytligcknlmbgbiaa.P Go.Proofs.YtligcknlmbgbiaaW.PrintWords Go.Proofs.YtligcknlmbgbiaaW.PrintLast Go.Proofs.Ytligcknlmbgbiaa.Opn
set_option linter.unusedVariables false
set_option linter.unusedSimpArgs false

theorem least_min (a b : Int) : spec_l1Least.f a b = some (min a b) := by
 unfold spec_l1Least.f
 split <;> (congr 1; omega)
theorem most_max (a b : Int) : spec_l1Most.f a b = some (max a b) := by
 unfold spec_l1Most.f
 split <;> (congr 1; omega)
theorem rdJ (l : List SpJ) (i : Nat) (h : i < l.length) : rd_T59 l (i : Int) = l[i] := by
 simp [rd_T59, List.getD_eq_getElem?_getD, List.getElem?_eq_getElem h]
theorem dropJ (l : List SpJ) (i : Nat) (h : i < l.length) : l.drop i = rd_T59 l (i : Int) :: l.drop (i + 1) := by
 rw [List.drop_eq_getElem_cons h, rdJ l i h]
theorem add_j3 (x0 : List SpJ) (hn : x0.length ≤ 4194304) (k i : Nat) (x5 : List SpJ) (a b : Int) (h5 : x5.length ≤ 4194304) (hi : i ≤ x0.length) : spec_l2Add.j3 (k + 1) x0 x5 (i : Int) false a b = some (x5 ++ ⟨a, b⟩ :: x0.drop i) := by
 rw [spec_l2Add.j3, if_neg (by simp), if_pos (by omega)]
 simp only [Option.bind_some]
 rw [if_pos (by omega), if_pos (by omega), Int.toNat_natCast, if_pos (by simp only [List.length_append, List.length_drop, List.length_cons, List.length_nil]; omega), List.append_assoc]
 rfl
theorem add_l1 (x0 : List SpJ) (hn : x0.length ≤ 4194304) : ∀ (d k i : Nat) (x5 : List SpJ) (a b : Int), i + d = x0.length → 2 * d + 2 < k → x5.length ≤ 4194304 → spec_l2Add.l1 k x0 x5 (i : Int) a b = some (x5 ++ mrgS ⟨a, b⟩ (x0.drop i)) := by
 intro d
 induction d with
 | zero =>
  intro k i x5 a b hi hk h5
  obtain ⟨k, rfl⟩ : ∃ m, k = (m + 1) + 1 := ⟨k - 2, by omega⟩
  rw [spec_l2Add.l1, if_neg (by omega), add_j3 x0 hn k i x5 a b h5 (by omega), List.drop_eq_nil_of_le (by omega), mrgS]
 | succ d ih =>
  intro k i x5 a b hi hk h5
  obtain ⟨k, rfl⟩ : ∃ m, k = (m + 1) + 1 := ⟨k - 2, by omega⟩
  rw [spec_l2Add.l1, if_pos (by omega), if_pos (by omega), dropJ x0 i (by omega), mrgS]
  by_cases h : (rd_T59 x0 (i : Int)).f0 ≤ b
  ·rw [decide_eq_true h, if_pos h, spec_l2Add.j3, if_pos rfl, if_pos (by omega), if_pos (by omega), least_min, most_max, Option.bind_some, Option.bind_some, wrap_id (x := (i : Int) + 1) (by omega) (by omega)]
   exact ih k (i + 1) x5 _ _ (by omega) (by omega) h5
  ·rw [decide_eq_false h, if_neg h, add_j3 x0 hn k i x5 a b h5 (by omega), dropJ x0 i (by omega)]
theorem add_l0 (x0 : List SpJ) (hn : x0.length ≤ 2097152) : ∀ (d k i : Nat) (x5 : List SpJ) (a b : Int), i + d = x0.length → 3 * d + 4 < k → x5.length ≤ i → spec_l2Add.l0 k x0 x5 (i : Int) a b = some (x5 ++ addS ⟨a, b⟩ (x0.drop i)) := by
 intro d
 induction d with
 | zero =>
  intro k i x5 a b hi hk h5
  obtain ⟨k, rfl⟩ : ∃ m, k = (m + 1) + 1 := ⟨k - 2, by omega⟩
  rw [spec_l2Add.l0, if_neg (by omega), spec_l2Add.j1, add_l1 x0 (by omega) 0 k i x5 a b hi (by omega) (by omega), List.drop_eq_nil_of_le (by omega), addS, mrgS]
 | succ d ih =>
  intro k i x5 a b hi hk h5
  obtain ⟨k, rfl⟩ : ∃ m, k = (m + 1) + 1 := ⟨k - 2, by omega⟩
  rw [spec_l2Add.l0, if_pos (by omega), if_pos (by omega)]
  by_cases h : (rd_T59 x0 (i : Int)).f1 < a
  ·have := ih (k + 1) (i + 1) (x5 ++ [rd_T59 x0 (i : Int)]) a b (by omega) (by omega) (by simp; omega)
   have q : ((i + 1 : Nat) : Int) = (i : Int) + 1 := by omega
   rw [q] at this
   rw [if_pos h, if_pos (by omega), wrap_id (x := (i : Int) + 1) (by omega) (by omega), this, dropJ x0 i (by omega), addS, if_pos h, List.append_assoc]
   rfl
  ·rw [if_neg h, spec_l2Add.j1, add_l1 x0 (by omega) (d + 1) k i x5 a b hi (by omega) (by omega), dropJ x0 i (by omega), addS, if_neg h]
theorem l2Add (x0 : List SpJ) (hn : x0.length ≤ 2097152) (a b : Int) (k : Nat) (hk : 3 * x0.length + 4 < k) : spec_l2Add.f k x0 a b = some (addS ⟨a, b⟩ x0) := by
 unfold spec_l2Add.f
 exact add_l0 x0 hn x0.length k 0 [] a b (by omega) hk (by simp)
theorem mrg_len : ∀ (l : List SpJ) (x : SpJ), (mrgS x l).length ≤ l.length + 1 := by
 intro l
 induction l with
 | nil => intro x; simp [mrgS]
 | cons y l ih =>
  intro x
  rw [mrgS]
  split
  ·have := ih ⟨min x.f0 y.f0, max x.f1 y.f1⟩
   simp only [List.length_cons]
   omega
  ·simp
theorem add_len (x : SpJ) : ∀ (l : List SpJ), (addS x l).length ≤ l.length + 1 := by
 intro l
 induction l with
 | nil => simp [addS]
 | cons y l ih =>
  rw [addS]
  split
  ·simp only [List.length_cons]
   omega
  ·exact mrg_len _ _
theorem sum_len : ∀ (l acc : List SpJ), (sumS acc l).length ≤ acc.length + l.length := by
 intro l
 induction l with
 | nil => intro acc; simp [sumS]
 | cons x l ih =>
  intro acc
  have := ih (addS x acc)
  have h2 := add_len x acc
  have e : sumS acc (x :: l) = sumS (addS x acc) l := rfl
  rw [e, List.length_cons]
  omega

end Go.Proofs.Ytligcknlmbgbiaa.Pure

namespace Go.Proofs.Ytligcknlmbgbiaa.Pure
open Go.RowKit Go.Proofs.Ytligcknlmbgbiaa.P Go.Proofs.YtligcknlmbgbiaaW.PrintWords Go.Proofs.YtligcknlmbgbiaaW.PrintLast Go.Proofs.Ytligcknlmbgbiaa.Opn
set_option linter.unusedVariables false
set_option linter.unusedSimpArgs false

theorem mx_max (a b : Int) : mx a b = max a b := by
 unfold mx
 split <;> omega
theorem rd_last (pre : List SpJ) (c : SpJ) : rd_T59 (pre ++ [c]) (pre.length : Int) = c := by
 rw [rdJ _ _ (by simp)]
 simp
theorem set_last (pre : List SpJ) (c v : SpJ) : (pre ++ [c]).set pre.length v = pre ++ [v] := by
 simp
theorem joined_l0 (s : List SpJ) (hn : s.length ≤ 4194304) : ∀ (d k i : Nat) (pre : List SpJ) (cur : SpJ), i + d = s.length → d < k → pre.length ≤ i → impl_joined.l0 k (pre ++ [cur]) s (s.length : Int) (i : Int) = some (pre ++ jnS cur (s.drop i)) := by
 intro d
 induction d with
 | zero =>
  intro k i pre cur hi hk hp
  obtain ⟨k, rfl⟩ := round hk
  rw [impl_joined.l0, if_neg (by omega), List.drop_eq_nil_of_le (by omega), jnS]
 | succ d ih =>
  intro k i pre cur hi hk hp
  obtain ⟨k, rfl⟩ := round hk
  have hl : (pre ++ [cur]).length = pre.length + 1 := by simp
  have e : wrap64 (((pre ++ [cur]).length : Int) - 1) = (pre.length : Int) := by
   rw [hl, wrap_id (by omega) (by omega)]
   omega
  have q : ((i + 1 : Nat) : Int) = (i : Int) + 1 := by omega
  rw [impl_joined.l0, if_pos (by omega), if_pos (by omega), if_pos (by omega), e, if_pos (by omega), if_pos (by omega), if_pos (by rw [hl]; omega), rd_last, Int.toNat_natCast, wrap_id (x := (i : Int) + 1) (by omega) (by omega), dropJ s i (by omega), jnS]
  by_cases h : (rd_T59 s (i : Int)).f0 ≤ cur.f1
  ·rw [if_pos h, if_pos h, set_last, mx_max, ← q]
   exact ih k (i + 1) pre _ (by omega) (by omega) (by omega)
  ·have := ih k (i + 1) (pre ++ [cur]) (rd_T59 s (i : Int)) (by omega) (by omega) (by rw [hl]; omega)
   rw [if_neg h, if_neg h, if_pos (by rw [hl]; omega), ← q]
   refine Eq.trans ?_ (this.trans ?_)
   ·rfl
   ·rw [List.append_assoc]
    rfl
theorem joined_all (s : List SpJ) (hn : s.length ≤ 4194304) (k : Nat) (hk : s.length < k) : impl_joined.l0 k [] s (s.length : Int) 0 = some (joinS s) := by
 obtain ⟨k, rfl⟩ := round hk
 cases s with
 | nil => rw [impl_joined.l0, if_neg (by simp), joinS]
 | cons x t =>
  have e : wrap64 ((([] : List SpJ).length : Int) - 1) = -1 := by rw [wrap_id (by simp) (by simp)]; simp
  rw [impl_joined.l0, if_pos (by simp), if_pos (by omega), if_pos (by simp), e, if_neg (by omega), if_pos (by simp), wrap_id (x := (0 : Int) + 1) (by omega) (by omega)]
  exact joined_l0 (x :: t) hn t.length k 1 [] x (by simp; omega) (by simp at hk; omega) (by simp)
/-- impl.joined: the spans put in one by one. -/
theorem joined_sum (l : List SpJ) (hn : l.length ≤ 4194304) (hv : ∀ x, x ∈ l → 0 ≤ x.f0 ∧ x.f0 < x.f1 ∧ x.f0 ≤ 1000000000) (k : Nat) (hk : l.length < k) : impl_joined.f k l = some (sumS [] l) := by
 have hall : l.all okVS = true := by
  rw [List.all_eq_true]
  intro x hx
  have := hv x hx
  unfold okVS
  rw [decide_eq_true this.1, decide_eq_true (by omega)]
  rfl
 obtain ⟨r, hr⟩ : ∃ r, impl_Span_76.f l = some r := by
  unfold impl_Span_76.f
  rw [if_pos (by omega), if_pos hall]
  exact ⟨_, rfl⟩
 have hs := impl_Span_76.spec l r hr
 have hl := hs.1.length_eq
 unfold impl_joined.f impl_Span_38.f
 rw [Option.bind_some, if_pos (by simp; omega), Option.bind_some]
 rw [List.nil_append, hr, Option.bind_some, ← hl, joined_all r (by omega) k (by omega), join_perm l r (fun x hx => (hv x hx).2.1) hs.1 hs.2]

end Go.Proofs.Ytligcknlmbgbiaa.Pure

namespace Go.Proofs.Ytligcknlmbgbiaa.Pure
open Go.RowKit Go.Proofs.Ytligcknlmbgbiaa.P Go.Proofs.YtligcknlmbgbiaaW.PrintWords Go.Proofs.YtligcknlmbgbiaaW.PrintLast Go.Proofs.Ytligcknlmbgbiaa.Opn
set_option linter.unusedVariables false
set_option linter.unusedSimpArgs false

/-- Two lists that rise strictly and hold the same numbers are one. -/
theorem asc_uniq : ∀ (l1 l2 : List Int), l1.Pairwise (· < ·) → l2.Pairwise (· < ·) → (∀ n, n ∈ l1 ↔ n ∈ l2) → l1 = l2 := by
 intro l1
 induction l1 with
 | nil =>
  intro l2 _ _ hc
  cases l2 with
  | nil => rfl
  | cons y s => exact absurd ((hc y).2 List.mem_cons_self) (by simp)
 | cons x t ih =>
  intro l2 h1 h2 hc
  cases l2 with
  | nil => exact absurd ((hc x).1 List.mem_cons_self) (by simp)
  | cons y s =>
   have p1 := List.pairwise_cons.1 h1
   have p2 := List.pairwise_cons.1 h2
   have e : x = y := by
    rcases List.mem_cons.1 ((hc x).1 List.mem_cons_self) with h | h
    ·exact h
    ·rcases List.mem_cons.1 ((hc y).2 List.mem_cons_self) with h' | h'
     ·exact h'.symm
     ·have := p2.1 x h
      have := p1.1 y h'
      omega
   subst e
   congr 1
   refine ih s p1.2 p2.2 fun n => ⟨fun h => ?_, fun h => ?_⟩
   ·rcases List.mem_cons.1 ((hc n).1 (List.mem_cons_of_mem _ h)) with h' | h'
    ·have := p1.1 n h
     omega
    ·exact h'
   ·rcases List.mem_cons.1 ((hc n).2 (List.mem_cons_of_mem _ h)) with h' | h'
    ·have := p2.1 n h
     omega
    ·exact h'
theorem asc_of_le {l : List Int} (h : l.Pairwise (· ≤ ·)) (hn : l.Nodup) : l.Pairwise (· < ·) := by
 induction l with
 | nil => exact List.Pairwise.nil
 | cons x l ih =>
  have q := List.pairwise_cons.1 h
  have n := List.nodup_cons.1 hn
  refine List.pairwise_cons.2 ⟨fun z hz => ?_, ih q.2 n.2⟩
  have := q.1 z hz
  rcases Int.lt_or_eq_of_le this with h | h
  ·exact h
  ·exact absurd (h ▸ hz) n.1
theorem nodup_of_asc {l : List Int} (h : l.Pairwise (· < ·)) : l.Nodup := h.imp (fun h e => by omega)

end Go.Proofs.Ytligcknlmbgbiaa.Pure

namespace Go.Proofs.Ytligcknlmbgbiaa.Pure
open Go.RowKit Go.Proofs.Ytligcknlmbgbiaa.P Go.Proofs.YtligcknlmbgbiaaW.PrintWords Go.Proofs.YtligcknlmbgbiaaW.PrintLast Go.Proofs.Ytligcknlmbgbiaa.Opn
set_option linter.unusedVariables false
set_option linter.unusedSimpArgs false

theorem sort_ok (l : List Int) : (l.mergeSort fun x y => decide (x ≤ y)).Pairwise (· ≤ ·) ∧ ∀ n, n ∈ (l.mergeSort fun x y => decide (x ≤ y)) ↔ n ∈ l := by
 refine ⟨?_, fun n => (List.mergeSort_perm l _).mem_iff⟩
 have := List.pairwise_mergeSort (le := fun x y : Int => decide (x ≤ y)) (fun a b c h1 h2 => decide_eq_true (by have := of_decide_eq_true h1; have := of_decide_eq_true h2; omega)) (fun a b => by
  rcases Int.le_total a b with h | h
  ·simp [h]
  ·simp [h]) l
 exact this.imp fun h => of_decide_eq_true h

end Go.Proofs.Ytligcknlmbgbiaa.Pure

namespace Go.Proofs.Ytligcknlmbgbiaa.Pure
open Go.RowKit Go.Proofs.Ytligcknlmbgbiaa.P Go.Proofs.YtligcknlmbgbiaaW.PrintWords Go.Proofs.YtligcknlmbgbiaaW.PrintLast Go.Proofs.Ytligcknlmbgbiaa.Opn
set_option linter.unusedVariables false
set_option linter.unusedSimpArgs false

def opn (l1 : List Sp) (l2 : List Int) : Nat → Int → List Int
 | 0, _ => []
 | d + 1, i => if l1.any (inSpan i) || decide (i ∈ l2) then opn l1 l2 d (i + 1) else i :: opn l1 l2 d (i + 1)
theorem opn_len (l1 : List Sp) (l2 : List Int) : ∀ (d : Nat) (i : Int), (opn l1 l2 d i).length ≤ d := by
 intro d
 induction d with
 | zero => intro i; simp [opn]
 | succ d ih =>
  intro i
  have := ih (i + 1)
  rw [opn]
  split
  ·omega
  ·simp only [List.length_cons]
   omega
theorem impl_open_l0 (a : Int) (l1 : List Sp) (l2 : List Int) (h1 : l1.length ≤ 1048576) (h2 : l2.length ≤ 1048576) (ha : a ≤ 60) : ∀ (d k : Nat) (i : Int) (x : List Int), i + d = a → 0 ≤ i → d + l1.length + l2.length + 1 < k → x.length ≤ 100 + i.toNat → impl_Sender_open.l0 k x a i a l1 l2 = some (x ++ opn l1 l2 d i, a) := by
 intro d
 induction d with
 | zero =>
  intro k i x hi h0 hk hx
  obtain ⟨k, rfl⟩ := round (d := 0) (k := k) (by omega)
  rw [impl_Sender_open.l0, if_neg (by omega), opn, List.append_nil]
 | succ d ih =>
  intro k i x hi h0 hk hx
  obtain ⟨k, rfl⟩ := round (d := 0) (k := k) (by omega)
  rw [impl_Sender_open.l0, if_pos (by omega)]
  unfold impl_has.f
  rw [Option.bind_some, wrap_id (x := i + 1) (by omega) (by omega), opn]
  cases hb : l1.any (inSpan i) with
  | true =>
   rw [if_pos rfl, Bool.true_or, if_pos rfl]
   exact ih k (i + 1) x (by omega) (by omega) (by omega) (by omega)
  | false =>
   rw [if_neg (show ¬ (false = true) by decide), containsI l2 i h2 k (by omega), Option.bind_some, Bool.false_or]
   cases hc : decide (i ∈ l2) with
   | true =>
    rw [if_pos rfl, if_pos rfl]
    exact ih k (i + 1) x (by omega) (by omega) (by omega) (by omega)
   | false =>
    rw [if_neg (show ¬ (false = true) by decide), if_neg (show ¬ (false = true) by decide), if_pos (by omega), ih k (i + 1) (x ++ [i]) (by omega) (by omega) (by omega) (by simp only [List.length_append, List.length_cons, List.length_nil]; omega), List.append_assoc]
    rfl

def rng (p : Int → Bool) : Nat → Int → List Int
 | 0, _ => []
 | d + 1, i => if p i then i :: rng p d (i + 1) else rng p d (i + 1)
theorem rng_len (p : Int → Bool) : ∀ (d : Nat) (i : Int), (rng p d i).length ≤ d := by
 intro d
 induction d with
 | zero => intro i; simp [rng]
 | succ d ih =>
  intro i
  have := ih (i + 1)
  rw [rng]
  split
  ·simp only [List.length_cons]
   omega
  ·omega
theorem mem_rng (p : Int → Bool) (n : Int) : ∀ (d : Nat) (i : Int), n ∈ rng p d i ↔ i ≤ n ∧ n < i + d ∧ p n = true := by
 intro d
 induction d with
 | zero =>
  intro i
  simp only [rng, List.not_mem_nil, false_iff]
  omega
 | succ d ih =>
  intro i
  rw [rng]
  cases hp : p i with
  | true =>
   rw [if_pos rfl, List.mem_cons, ih]
   constructor
   ·rintro (rfl | h)
    ·exact ⟨by omega, by omega, hp⟩
    ·exact ⟨by omega, by omega, h.2.2⟩
   ·rintro ⟨h1, h2, h3⟩
    by_cases e : n = i
    ·exact .inl e
    ·exact .inr ⟨by omega, by omega, h3⟩
  | false =>
   rw [if_neg (by simp), ih]
   constructor
   ·rintro ⟨h1, h2, h3⟩
    exact ⟨by omega, by omega, h3⟩
   ·rintro ⟨h1, h2, h3⟩
    have : n ≠ i := by
     rintro rfl
     rw [hp] at h3
     cases h3
    exact ⟨by omega, by omega, h3⟩
theorem rng_asc (p : Int → Bool) : ∀ (d : Nat) (i : Int), (rng p d i).Pairwise (· < ·) := by
 intro d
 induction d with
 | zero => intro i; simp [rng]
 | succ d ih =>
  intro i
  rw [rng]
  split
  ·refine List.pairwise_cons.2 ⟨fun n hn => ?_, ih _⟩
   have := (mem_rng p n d (i + 1)).1 hn
   omega
  ·exact ih _
theorem rng_congr (p q : Int → Bool) : ∀ (d : Nat) (i : Int), (∀ n, i ≤ n → n < i + d → p n = q n) → rng p d i = rng q d i := by
 intro d
 induction d with
 | zero => intro i _; rfl
 | succ d ih =>
  intro i h
  rw [rng, rng, h i (by omega) (by omega), ih (i + 1) (fun n h1 h2 => h n (by omega) (by omega))]
theorem rng_filter (p q : Int → Bool) : ∀ (d : Nat) (i : Int), (rng p d i).filter q = rng (fun n => p n && q n) d i := by
 intro d
 induction d with
 | zero => intro i; rfl
 | succ d ih =>
  intro i
  rw [rng, rng]
  cases hp : p i <;> cases hq : q i <;> simp [hq, ih]
theorem opn_rng (l1 : List Sp) (l2 : List Int) : ∀ (d : Nat) (i : Int), opn l1 l2 d i = rng (fun n => !(l1.any (inSpan n) || decide (n ∈ l2))) d i := by
 intro d
 induction d with
 | zero => intro i; rfl
 | succ d ih =>
  intro i
  rw [opn, rng, ih]
  cases l1.any (inSpan i) || decide (i ∈ l2) <;> simp
def frP (J h : List Sp) (n : Int) : Bool := J.any (inSpan n) && !h.any (inSpan n)
def lpP (J : List Sp) (t : List Int) (top n : Int) : Bool := !J.any (inSpan n) && (decide (n ∈ t) || decide (top ≥ n + 3))
def npP (J : List Sp) (t : List Int) (top n : Int) : Bool := !J.any (inSpan n) && (!decide (n ∈ t) && decide (top ≥ n + 3))
def topJ (J : List Sp) : Int := if (J.length : Int) > 0 then wrap64 ((rd_T59 J (wrap64 ((J.length : Int) - 1))).f1 - 1) else -1
theorem spec_lost (a : Int) (h J : List Sp) (t : List Int) (top : Int) (x9 : List Int) (hJ : J.length ≤ 1048576) (ht : t.length ≤ 1048576) (ha : a ≤ 60) : ∀ (d k : Nat) (i : Int) (x10 y : List Int), i + d = a → 0 ≤ i → 2 * d + J.length + t.length + 2 < k → x10.length ≤ 100 + i.toNat → y.length ≤ 100 + i.toNat →
  spec_l11Hear.l1 k x9 x10 top i a h t a J y = some (a, J, y ++ rng (lpP J t top) d i, x9, x10 ++ rng (npP J t top) d i, decide ((J.length : Int) ≤ 20)) := by
 intro d
 induction d with
 | zero =>
  intro k i x10 y hi h0 hk hx hy
  obtain ⟨k, rfl⟩ := round (d := 0) (k := k) (by omega)
  rw [spec_l11Hear.l1, if_neg (by omega), rng, rng, List.append_nil, List.append_nil]
 | succ d ih =>
  intro k i x10 y hi h0 hk hx hy
  obtain ⟨k, rfl⟩ := round (d := 0) (k := k) (by omega)
  rw [spec_l11Hear.l1, if_pos (by omega), l2Has J i hJ k (by omega), Option.bind_some, wrap_id (x := i + 1) (by omega) (by omega), wrap_id (x := i + 3) (by omega) (by omega), rng, rng]
  cases hb : J.any (inSpan i) with
  | true =>
   rw [if_pos rfl, show lpP J t top i = false from by simp [lpP, hb], show npP J t top i = false from by simp [npP, hb]]
   exact ih k (i + 1) x10 y (by omega) (by omega) (by omega) (by omega) (by omega)
  | false =>
   rw [if_neg (by simp), l1Has t i ht k (by omega), Option.bind_some]
   obtain ⟨k, rfl⟩ := round (d := 0) (k := k) (by omega)
   cases hc : decide (i ∈ t) with
   | true =>
    rw [if_pos rfl, show lpP J t top i = true from by simp only [lpP, hb, hc]; rfl, show npP J t top i = false from by simp only [npP, hb, hc]; rfl, spec_l11Hear.j3, if_pos rfl, if_pos (by omega), Option.bind_some, if_pos rfl, wrap_id (x := i + 1) (by omega) (by omega)]
    rw [ih k (i + 1) x10 (y ++ [i]) (by omega) (by omega) (by omega) (by omega) (by simp only [List.length_append, List.length_cons, List.length_nil]; omega), List.append_assoc]
    rfl
   | false =>
    rw [if_neg (by simp), spec_l11Hear.j3, wrap_id (x := i + 1) (by omega) (by omega), wrap_id (x := i + 3) (by omega) (by omega)]
    by_cases hd : top ≥ i + 3
    ·rw [if_pos (by simpa using hd), show lpP J t top i = true from by simp only [lpP, hb, hc, hd, decide_true]; rfl, show npP J t top i = true from by simp only [npP, hb, hc, hd, decide_true]; rfl, if_pos (by omega), Option.bind_some, if_neg (by simp), if_pos hd, if_pos (by omega)]
     rw [ih k (i + 1) (x10 ++ [i]) (y ++ [i]) (by omega) (by omega) (by omega) (by simp only [List.length_append, List.length_cons, List.length_nil]; omega) (by simp only [List.length_append, List.length_cons, List.length_nil]; omega), List.append_assoc, List.append_assoc]
     rfl
    ·rw [if_neg (by simpa using hd), show lpP J t top i = false from by simp only [lpP, hb, hc, hd, decide_false]; rfl, show npP J t top i = false from by simp only [npP, hb, hc, hd, decide_false]; rfl, if_neg (by simp), if_neg hd]
     exact ih k (i + 1) x10 y (by omega) (by omega) (by omega) (by omega) (by omega)
theorem spec_fresh (a : Int) (h J : List Sp) (t : List Int) (hJ : J.length ≤ 1048576) (hh : h.length ≤ 1048576) (ht : t.length ≤ 1048576) (n : Nat) (hn : (n : Int) = a) (ha : a ≤ 60) : ∀ (d k : Nat) (i : Int) (x : List Int), i + d = a → 0 ≤ i → d + 2 * n + J.length + h.length + t.length + 5 < k → x.length ≤ 100 + i.toNat →
  spec_l11Hear.l0 k x i a h t a J = some (a, J, rng (lpP J t (topJ J)) n 0, x ++ rng (frP J h) d i, rng (npP J t (topJ J)) n 0, decide ((J.length : Int) ≤ 20)) := by
 intro d
 induction d with
 | zero =>
  intro k i x hi h0 hk hx
  obtain ⟨k, rfl⟩ := round (d := 0) (k := k) (by omega)
  obtain ⟨k, rfl⟩ := round (d := 0) (k := k) (by omega)
  rw [spec_l11Hear.l0, if_neg (by omega), rng, List.append_nil]
  by_cases hj : (J.length : Int) > 0
  ·rw [if_pos hj, if_pos (by rw [wrap_id (by omega) (by omega)]; omega), if_pos (by rw [wrap_id (by omega) (by omega)]; omega), spec_l11Hear.j1]
   have := spec_lost a h J t (topJ J) x hJ ht ha n k 0 [] [] (by omega) (by omega) (by omega) (by simp) (by simp)
   rw [show topJ J = wrap64 ((rd_T59 J (wrap64 ((J.length : Int) - 1))).f1 - 1) from if_pos hj] at this ⊢
   exact this
  ·rw [if_neg hj, spec_l11Hear.j1]
   have := spec_lost a h J t (topJ J) x hJ ht ha n k 0 [] [] (by omega) (by omega) (by omega) (by simp) (by simp)
   rw [show topJ J = -1 from if_neg hj] at this ⊢
   exact this
 | succ d ih =>
  intro k i x hi h0 hk hx
  obtain ⟨k, rfl⟩ := round (d := 0) (k := k) (by omega)
  rw [spec_l11Hear.l0, if_pos (by omega), l2Has J i hJ k (by omega), Option.bind_some, wrap_id (x := i + 1) (by omega) (by omega), rng]
  cases hb : J.any (inSpan i) with
  | false =>
   rw [if_neg (by simp), show frP J h i = false from by simp [frP, hb], if_neg (by simp)]
   exact ih k (i + 1) x (by omega) (by omega) (by omega) (by omega)
  | true =>
   rw [if_pos rfl, l2Has h i hh k (by omega), Option.bind_some]
   cases hc : h.any (inSpan i) with
   | true =>
    rw [if_pos rfl, show frP J h i = false from by simp only [frP, hb, hc]; rfl, if_neg (by simp)]
    exact ih k (i + 1) x (by omega) (by omega) (by omega) (by omega)
   | false =>
    rw [if_neg (by simp), show frP J h i = true from by simp only [frP, hb, hc]; rfl, if_pos rfl, if_pos (by omega), ih k (i + 1) (x ++ [i]) (by omega) (by omega) (by omega) (by simp only [List.length_append, List.length_cons, List.length_nil]; omega), List.append_assoc]
    rfl
def srtI (l : List Int) : List Int := l.mergeSort fun x y => decide (x ≤ y)
theorem impl_new (a : Int) (J : List Sp) (D o x10 : List Int) (top : Int) (hD : D.length ≤ 1048576) (hon : o.length ≤ 1000) (ho : ∀ n, n ∈ o → 0 ≤ n ∧ n ≤ 100) : ∀ (d k i : Nat) (x11 : List Int), i + d = o.length → d < k → x11.length ≤ i →
  impl_HearSpans.l1 k x10 x11 top o (o.length : Int) (i : Int) a J D = some (a, J, srtI (D ++ (x11 ++ (o.drop i).filter fun n => decide (top ≥ n + 3))), x10, x11 ++ (o.drop i).filter (fun n => decide (top ≥ n + 3)), true) := by
 intro d
 induction d with
 | zero =>
  intro k i x11 hi hk hx
  obtain ⟨k, rfl⟩ := round (d := 0) (k := k) (by omega)
  rw [impl_HearSpans.l1, if_neg (by omega), if_pos (by omega), List.drop_of_length_le (by omega), List.filter_nil, List.append_nil]
  unfold slices_Sort_int_int.f
  rw [if_pos (by simp only [List.length_append]; omega), Option.bind_some]
  rfl
 | succ d ih =>
  intro k i x11 hi hk hx
  obtain ⟨k, rfl⟩ := round (d := 0) (k := k) (by omega)
  have hm := ho (rd o (i : Int)) (by rw [rd_nat o i (by omega)]; exact List.getElem_mem _)
  have hd : o.drop i = rd o (i : Int) :: o.drop (i + 1) := by
   rw [rd_nat o i (by omega)]
   exact List.drop_eq_getElem_cons (by omega)
  have q : ((i + 1 : Nat) : Int) = (i : Int) + 1 := by omega
  rw [impl_HearSpans.l1, if_pos (by omega), if_pos (by omega), if_pos (by omega), wrap_id (x := rd o (i : Int) + 3) (by omega) (by omega), wrap_id (x := (i : Int) + 1) (by omega) (by omega), hd, List.filter_cons, ← q]
  by_cases hc : top ≥ rd o (i : Int) + 3
  ·rw [if_pos hc, if_pos (by omega), if_pos (by simpa using hc), ih k (i + 1) (x11 ++ [rd o (i : Int)]) (by omega) (by omega) (by simp only [List.length_append, List.length_cons, List.length_nil]; omega)]
   simp only [List.append_assoc, List.cons_append, List.nil_append]
  ·rw [if_neg hc, if_neg (by simpa using hc)]
   exact ih k (i + 1) x11 (by omega) (by omega) (by omega)
def keepP (J : List Sp) (t : List Int) : List Int := t.filter fun x => !J.any (inSpan x)
def newI (a : Nat) (J : List Sp) (t : List Int) : List Int := if (J.length : Int) > 0 then (opn J (keepP J t) a 0).filter (fun n => decide (topJ J ≥ n + 3)) else []
theorem impl_fresh (n : Nat) (hn60 : n ≤ 60) (h J : List Sp) (t : List Int) (hJ : J.length ≤ 1048576) (hh : h.length ≤ 1048576) (ht : t.length ≤ 1048576) : ∀ (d k : Nat) (i : Int) (x : List Int), i + d = (n : Int) → 0 ≤ i → d + n + J.length + t.length + 70 < k → x.length ≤ 100 + i.toNat →
  impl_HearSpans.l0 k x [] (n : Int) i (n : Int) h t J = some ((n : Int), J, srtI (keepP J t ++ newI n J t), x ++ rng (frP J h) d i, newI n J t, true) := by
 intro d
 have hkl : (keepP J t).length ≤ t.length := List.length_filter_le _ _
 induction d with
 | zero =>
  intro k i x hi h0 hk hx
  obtain ⟨k, rfl⟩ := round (d := 0) (k := k) (by omega)
  rw [impl_HearSpans.l0, if_neg (by omega), rng, List.append_nil]
  unfold slices_Clone_int_int.f slices_DeleteFunc_int_int.f
  rw [if_pos (by omega), Option.bind_some, if_pos (by omega), Option.bind_some]
  by_cases hj : (J.length : Int) > 0
  ·rw [if_pos hj, if_pos (by rw [wrap_id (by omega) (by omega)]; omega), if_pos (by rw [wrap_id (by omega) (by omega)]; omega)]
   unfold impl_Span_82.f impl_Sender_open.f
   have ho := impl_open_l0 (n : Int) J (keepP J t) hJ (by omega) (by omega) n k 0 [] (by omega) (by omega) (by omega) (by simp)
   rw [show impl_Sender_open.l0 k [] (n : Int) 0 (n : Int) J (t.filter fun x => !J.any (inSpan x)) = _ from ho, Option.bind_some, Option.bind_some, List.nil_append]
   have hl := opn_len J (keepP J t) n 0
   have := impl_new (n : Int) J (keepP J t) (opn J (keepP J t) n 0) x (topJ J) (by omega) (by omega) (fun m hm => by
    rw [opn_rng] at hm
    have := (mem_rng _ m n 0).1 hm
    omega) (opn J (keepP J t) n 0).length k 0 [] (by omega) (by omega) (by simp)
   rw [List.drop_zero, List.nil_append] at this
   rw [show newI n J t = (opn J (keepP J t) n 0).filter (fun n => decide (topJ J ≥ n + 3)) from if_pos hj, ← this]
   rw [show topJ J = wrap64 ((rd_T59 J (wrap64 ((J.length : Int) - 1))).f1 - 1) from if_pos hj]
   rfl
  ·rw [if_neg hj, show newI n J t = [] from if_neg hj, if_pos (by simp only [List.length_nil]; exact Nat.lt_of_le_of_lt (show _ ≤ 1048576 from by have : (t.filter fun x => !J.any (inSpan x)).length ≤ t.length := hkl; omega) (by omega))]
   unfold slices_Sort_int_int.f
   rw [if_pos (by rw [List.append_nil]; have : (t.filter fun x => !J.any (inSpan x)).length ≤ t.length := hkl; omega), Option.bind_some]
   rfl
 | succ d ih =>
  intro k i x hi h0 hk hx
  obtain ⟨k, rfl⟩ := round (d := 0) (k := k) (by omega)
  rw [impl_HearSpans.l0, if_pos (by omega), wrap_id (x := i + 1) (by omega) (by omega), rng]
  unfold impl_has.f
  rw [Option.bind_some]
  cases hb : J.any (inSpan i) with
  | false =>
   rw [if_neg (by simp), show frP J h i = false from by simp [frP, hb], if_neg (by simp)]
   exact ih k (i + 1) x (by omega) (by omega) (by omega) (by omega)
  | true =>
   rw [if_pos rfl, Option.bind_some]
   cases hc : h.any (inSpan i) with
   | true =>
    rw [if_pos rfl, show frP J h i = false from by simp only [frP, hb, hc]; rfl, if_neg (by simp)]
    exact ih k (i + 1) x (by omega) (by omega) (by omega) (by omega)
   | false =>
    rw [if_neg (by simp), show frP J h i = true from by simp only [frP, hb, hc]; rfl, if_pos rfl, if_pos (by omega), ih k (i + 1) (x ++ [i]) (by omega) (by omega) (by omega) (by simp only [List.length_append, List.length_cons, List.length_nil]; omega), List.append_assoc]
    rfl

end Go.Proofs.Ytligcknlmbgbiaa.Pure

namespace Go.Proofs.Ytligcknlmbgbiaa.Pure
open Go.RowKit Go.Proofs.Ytligcknlmbgbiaa.P Go.Proofs.YtligcknlmbgbiaaW.PrintWords Go.Proofs.YtligcknlmbgbiaaW.PrintLast Go.Proofs.Ytligcknlmbgbiaa.Opn
set_option linter.unusedVariables false
set_option linter.unusedSimpArgs false

theorem ris_fact (m : Int) : ∀ (l : List Int) (p : Option Int), risOk m p l = true → l.Pairwise (· < ·) ∧ ∀ x, x ∈ l → 0 ≤ x ∧ x ≤ m ∧ ∀ q, p = some q → q < x := by
 intro l
 induction l with
 | nil => intro p _; exact ⟨List.Pairwise.nil, fun x hx => by cases hx⟩
 | cons y l ih =>
  intro p h
  rw [risOk] at h
  simp only [Bool.and_eq_true, decide_eq_true_eq] at h
  obtain ⟨h1, h2, h3⟩ := h
  obtain ⟨i1, i2⟩ := ih (some y) h3
  have hy : ∀ q, p = some q → q < y := by
   rintro q rfl
   simpa [aft] using h2
  refine ⟨List.pairwise_cons.2 ⟨fun x hx => (i2 x hx).2.2 y rfl, i1⟩, fun x hx => ?_⟩
  rcases List.mem_cons.1 hx with rfl | hx
  ·exact ⟨h1.1, h1.2, hy⟩
  ·refine ⟨(i2 x hx).1, (i2 x hx).2.1, fun q hq => ?_⟩
   have := hy q hq
   have := (i2 x hx).2.2 y rfl
   omega
theorem sp_fact : ∀ (l : List Sp) (p : Option Int), spOk p l = true → Nrm l ∧ ∀ x, x ∈ l → 0 ≤ x.f0 ∧ x.f0 < x.f1 ∧ x.f1 ≤ 1000000 ∧ ∀ q, p = some q → q < x.f0 := by
 intro l
 induction l with
 | nil => intro p _; exact ⟨trivial, fun x hx => by cases hx⟩
 | cons y l ih =>
  intro p h
  rw [spOk] at h
  simp only [isSp, Bool.and_eq_true, decide_eq_true_eq] at h
  obtain ⟨h1, h2, h3⟩ := h
  obtain ⟨i1, i2⟩ := ih (some y.f1) h3
  have hy : ∀ q, p = some q → q < y.f0 := by
   rintro q rfl
   simpa [aft] using h2
  refine ⟨⟨h1.2.1, fun x hx => (i2 x hx).2.2.2 y.f1 rfl, i1⟩, fun x hx => ?_⟩
  rcases List.mem_cons.1 hx with rfl | hx
  ·exact ⟨h1.1, h1.2.1, h1.2.2, hy⟩
  ·refine ⟨(i2 x hx).1, (i2 x hx).2.1, (i2 x hx).2.2.1, fun q hq => ?_⟩
   have := hy q hq
   have := (i2 x hx).2.2.2 y.f1 rfl
   omega
theorem new_rng (n : Nat) (J : List Sp) (t : List Int) : newI n J t = rng (npP J t (topJ J)) n 0 := by
 unfold newI
 by_cases hj : (J.length : Int) > 0
 ·rw [if_pos hj, opn_rng, rng_filter]
  refine rng_congr _ _ n 0 (fun m _ _ => ?_)
  unfold npP keepP
  cases hb : J.any (inSpan m) with
  | true => simp
  | false =>
   have : decide (m ∈ t.filter fun x => !J.any (inSpan x)) = decide (m ∈ t) := by
    congr 1
    rw [List.mem_filter, hb]
    simp
   rw [this]
   simp
 ·rw [if_neg hj]
  symm
  refine List.eq_nil_iff_forall_not_mem.2 (fun m hm => ?_)
  have h := (mem_rng _ m n 0).1 hm
  have h3 := h.2.2
  unfold npP at h3
  rw [show topJ J = -1 from if_neg hj] at h3
  simp only [Bool.and_eq_true, decide_eq_true_eq] at h3
  omega
theorem lost_rng (n : Nat) (hn : n ≤ 60) (J : List Sp) (t : List Int) (ht : risOk (wrap64 ((n : Int) - 1)) none t = true) : srtI (keepP J t ++ newI n J t) = rng (lpP J t (topJ J)) n 0 := by
 rw [new_rng, wrap_id (by omega) (by omega)] at *
 obtain ⟨t1, t2⟩ := ris_fact _ t none ht
 have hs := sort_ok (keepP J t ++ rng (npP J t (topJ J)) n 0)
 have hnd : (keepP J t ++ rng (npP J t (topJ J)) n 0).Nodup := by
  refine List.pairwise_append.2 ⟨(nodup_of_asc t1).filter _, nodup_of_asc (rng_asc _ _ _), fun x hx y hy e => ?_⟩
  subst e
  have h1 : x ∈ t := (List.mem_filter.1 hx).1
  have h3 := ((mem_rng _ x n 0).1 hy).2.2
  unfold npP at h3
  simp [h1] at h3
 refine asc_uniq _ _ (asc_of_le hs.1 ((List.mergeSort_perm _ _).nodup_iff.2 hnd)) (rng_asc _ _ _) (fun m => ?_)
 refine (hs.2 m).trans ?_
 rw [List.mem_append, mem_rng, mem_rng]
 unfold keepP npP lpP
 rw [List.mem_filter]
 constructor
 ·rintro (⟨h1, h2⟩ | ⟨h1, h2, h3⟩)
  ·have := t2 m h1
   refine ⟨by omega, by omega, ?_⟩
   rw [h2]
   simp [h1]
  ·refine ⟨h1, h2, ?_⟩
   simp only [Bool.and_eq_true] at h3
   rw [h3.1, h3.2.2]
   simp
 ·rintro ⟨h1, h2, h3⟩
  simp only [Bool.and_eq_true, Bool.or_eq_true, decide_eq_true_eq] at h3
  by_cases hm : m ∈ t
  ·exact .inl ⟨hm, h3.1⟩
  ·refine .inr ⟨h1, h2, ?_⟩
   rcases h3.2 with h | h
   ·exact absurd h hm
   ·rw [h3.1]
    simp [hm, h]
theorem join_l0 (l : List Sp) (hl : l.length ≤ 1000) : ∀ (d k i : Nat) (acc : List Sp), i + d = l.length → d + 3 * l.length + 3100 < k → acc.length ≤ 20 + i → spec_l2Join.l0 k acc l (l.length : Int) (i : Int) = some (sumS acc (l.drop i)) := by
 intro d
 induction d with
 | zero =>
  intro k i acc hi hk ha
  obtain ⟨k, rfl⟩ := round (d := 0) (k := k) (by omega)
  rw [spec_l2Join.l0, if_neg (by omega), List.drop_of_length_le (by omega)]
  rfl
 | succ d ih =>
  intro k i acc hi hk ha
  obtain ⟨k, rfl⟩ := round (d := 0) (k := k) (by omega)
  have q : ((i + 1 : Nat) : Int) = (i : Int) + 1 := by omega
  have hal := add_len ⟨(rd_T59 l (i : Int)).f0, (rd_T59 l (i : Int)).f1⟩ acc
  rw [spec_l2Join.l0, if_pos (by omega), if_pos (by omega), if_pos (by omega), l2Add acc (by omega) _ _ k (by omega), Option.bind_some, wrap_id (x := (i : Int) + 1) (by omega) (by omega), ← q]
  rw [ih k (i + 1) _ (by omega) (by omega) (by omega), dropJ l i (by omega)]
  rfl
theorem hear_join (h l : List Sp) (hh : goodSp h = true) (hl : goodSp l = true) (k : Nat) (hk : 5000 < k) : spec_l2Join.f k h l = some (sumS h l) ∧ impl_JoinSpans.f k h l = some (if ((sumS h l).length : Int) > 20 then ([], false) else (sumS h l, true)) := by
 obtain ⟨k, rfl⟩ := round hk
 have hh' := hh
 have hl' := hl
 unfold goodSp at hh' hl'
 simp only [Bool.and_eq_true, decide_eq_true_eq] at hh' hl'
 obtain ⟨h1, h2⟩ := sp_fact h none hh'.1
 obtain ⟨l1, l2⟩ := sp_fact l none hl'.1
 constructor
 ·unfold spec_l2Join.f
  rw [Option.bind_some, if_pos (by simp only [List.length_nil]; omega), List.nil_append]
  exact join_l0 l (by omega) l.length (k + 1) 0 h (by omega) (by omega) (by omega)
 ·unfold impl_JoinSpans.f
  rw [impl_goodSp h (by omega) (k + 1) (by omega), impl_goodSp l (by omega) (k + 1) (by omega), hh, hl]
  simp only [Option.bind_some, if_true, Bool.not_true]
  rw [impl_JoinSpans.j0, if_neg (by simp)]
  unfold impl_Span_68.f
  have e : ([h, l] : List (List Sp)).flatten = h ++ l := by simp
  rw [e, if_pos (by rw [List.length_append]; omega), Option.bind_some, joined_sum (h ++ l) (by rw [List.length_append]; omega) (fun x hx => by
   rcases List.mem_append.1 hx with hx | hx
   ·have := h2 x hx
    omega
   ·have := l2 x hx
    omega) k (by rw [List.length_append]; omega), Option.bind_some, sum_append h l h1 (fun x hx => (l2 x hx).2.1)]
  unfold impl_few.f
  split <;> rfl
def hearQ (n : Nat) (h : List Sp) (t : List Int) (J : List Sp) : Int × List Sp × List Int × List Int × List Int × Bool := ((n : Int), J, rng (lpP J t (topJ J)) n 0, rng (frP J h) n 0, rng (npP J t (topJ J)) n 0, true)
theorem hear_spec (n : Nat) (hn : n ≤ 60) (h l : List Sp) (t : List Int) (hh : goodSp h = true) (hl : goodSp l = true) (ht : t.length ≤ 1048576) (k : Nat) (hk : t.length + 5500 < k) : spec_l11Hear.f k (n : Int) h t l = some ((n : Int), sumS h l, rng (lpP (sumS h l) t (topJ (sumS h l))) n 0, rng (frP (sumS h l) h) n 0, rng (npP (sumS h l) t (topJ (sumS h l))) n 0, decide (((sumS h l).length : Int) ≤ 20)) := by
 unfold spec_l11Hear.f
 have hh' := hh
 have hl' := hl
 unfold goodSp at hh' hl'
 simp only [Bool.and_eq_true, decide_eq_true_eq] at hh' hl'
 have hs := sum_len l h
 rw [(hear_join h l hh hl k (by omega)).1, Option.bind_some, spec_fresh (n : Int) h (sumS h l) t (by omega) (by omega) ht n rfl (by omega) n k 0 [] (by omega) (by omega) (by omega) (by simp)]
 rfl
theorem hear_both (a : Int) (h l : List Sp) (t : List Int) (hh : h.length ≤ 1048576) (hl : l.length ≤ 1048576) (ht : t.length ≤ 1048576) : ∃ q : Int × List Sp × List Int × List Int × List Int × Bool, q.2.1.length ≤ 20 ∧ q.2.2.1.length ≤ 60 ∧ q.2.2.2.1.length ≤ 60 ∧ q.2.2.2.2.1.length ≤ 60 ∧ ∀ k, h.length + t.length + l.length + 6000 < k → spec_HearSpans.f k a h t l = some q ∧ impl_HearSpans.f k a h t l = some q := by
 by_cases hg : goodSe a h t = true
 ·by_cases hb : belowSp l a = true
  ·have hg' := hg
   unfold goodSe belowSp at hg'
   simp only [Bool.and_eq_true, decide_eq_true_eq] at hg'
   obtain ⟨ha, ⟨hgh, _⟩, hr, _⟩ := hg'
   have hb' := hb
   unfold belowSp at hb'
   simp only [Bool.and_eq_true] at hb'
   obtain ⟨n, rfl⟩ := Int.eq_ofNat_of_zero_le ha.1
   have hn : n ≤ 60 := by omega
   have hlen : (sumS h l).length ≤ 40 := by
    have hh' := hgh
    have hl' := hb'.1
    unfold goodSp at hh' hl'
    simp only [Bool.and_eq_true, decide_eq_true_eq] at hh' hl'
    have hs := sum_len l h
    omega
   by_cases hJ : ((sumS h l).length : Int) ≤ 20
   ·refine ⟨hearQ n h t (sumS h l), by show (sumS h l).length ≤ 20; omega, Nat.le_trans (rng_len _ _ _) hn, Nat.le_trans (rng_len _ _ _) hn, Nat.le_trans (rng_len _ _ _) hn, fun k hk => ?_⟩
    obtain ⟨k, rfl⟩ := round hk
    unfold spec_HearSpans.f impl_HearSpans.f
    rw [spec_goodSe _ h t hh ht (k + 1) (by omega), impl_goodSe _ h t hh ht (k + 1) (by omega), hg, spec_below l _ hl (k + 1) (by omega), impl_below l _ hl (k + 1) (by omega), hb]
    simp only [Option.bind_some, if_true, Bool.not_true]
    rw [spec_HearSpans.j0, impl_HearSpans.j0, if_neg (by simp), if_neg (by simp), hear_spec n hn h l t hgh hb'.1 ht k (by omega), (hear_join h l hgh hb'.1 k (by omega)).2, if_neg (by omega)]
    simp only [Option.bind_some, if_true]
    rw [if_pos (by simpa using hJ), impl_fresh n hn h (sumS h l) t (by omega) hh ht n k 0 [] (by omega) (by omega) (by omega) (by simp), lost_rng n hn _ t hr, new_rng]
    have c1 := rng_len (lpP (sumS h l) t (topJ (sumS h l))) n 0
    unfold spec_l11Own.f
    rw [Option.bind_some, if_pos (by simp only [List.length_nil]; omega), Option.bind_some, if_pos (by simp only [List.length_nil]; omega)]
    exact ⟨rfl, rfl⟩
   ·refine ⟨(0, [], [], [], [], false), by simp, by simp, by simp, by simp, fun k hk => ?_⟩
    obtain ⟨k, rfl⟩ := round hk
    unfold spec_HearSpans.f impl_HearSpans.f
    rw [spec_goodSe _ h t hh ht (k + 1) (by omega), impl_goodSe _ h t hh ht (k + 1) (by omega), hg, spec_below l _ hl (k + 1) (by omega), impl_below l _ hl (k + 1) (by omega), hb]
    simp only [Option.bind_some, if_true, Bool.not_true]
    rw [spec_HearSpans.j0, impl_HearSpans.j0, if_neg (by simp), if_neg (by simp), hear_spec n hn h l t hgh hb'.1 ht k (by omega), (hear_join h l hgh hb'.1 k (by omega)).2, if_pos (by omega)]
    simp only [Option.bind_some]
    rw [if_neg (by simpa using hJ), if_neg (by simp)]
    exact ⟨rfl, rfl⟩
  ·refine ⟨(0, [], [], [], [], false), by simp, by simp, by simp, by simp, fun k hk => ?_⟩
   obtain ⟨k, rfl⟩ := round hk
   rw [Bool.not_eq_true] at hb
   unfold spec_HearSpans.f impl_HearSpans.f
   rw [spec_goodSe _ h t hh ht (k + 1) (by omega), impl_goodSe _ h t hh ht (k + 1) (by omega), hg, spec_below l _ hl (k + 1) (by omega), impl_below l _ hl (k + 1) (by omega), hb]
   simp only [Option.bind_some, if_true, Bool.not_false]
   rw [spec_HearSpans.j0, impl_HearSpans.j0, if_pos rfl, if_pos rfl]
   exact ⟨rfl, rfl⟩
 ·refine ⟨(0, [], [], [], [], false), by simp, by simp, by simp, by simp, fun k hk => ?_⟩
  obtain ⟨k, rfl⟩ := round hk
  rw [Bool.not_eq_true] at hg
  unfold spec_HearSpans.f impl_HearSpans.f
  rw [spec_goodSe _ h t hh ht (k + 1) (by omega), impl_goodSe _ h t hh ht (k + 1) (by omega), hg]
  simp only [Option.bind_some, Bool.false_eq_true, if_false]
  rw [spec_HearSpans.j0, impl_HearSpans.j0, if_pos rfl, if_pos rfl]
  exact ⟨rfl, rfl⟩

end Go.Proofs.Ytligcknlmbgbiaa.Pure

namespace Go.Proofs.Ytligcknlmbgbiaa.Pure
open Go.RowKit Go.Proofs.Ytligcknlmbgbiaa.P Go.Proofs.YtligcknlmbgbiaaW.PrintWords Go.Proofs.YtligcknlmbgbiaaW.PrintLast Go.Proofs.Ytligcknlmbgbiaa.Opn
set_option linter.unusedVariables false
set_option linter.unusedSimpArgs false

theorem markIntS_l0 (n : Nat) (a : Int) (ha : 0 ≤ a) (hb : a + n ≤ 1000000000) : ∀ (d k i : Nat) (y : List Int), i + d = n → d < k → y.length = n → y.take i = marks a i → laws_markIntS.l0 k y (a + i) (i : Int) = some (a + n, marks a n) := by
 intro d
 induction d with
 | zero =>
  intro k i y hi hk hy ht
  obtain ⟨k, rfl⟩ := round hk
  simp only [laws_markIntS.l0]
  rw [if_neg (by omega)]
  have : i = n := by omega
  subst this
  rw [← hy, List.take_length] at ht
  rw [ht, hy]
 | succ d ih =>
  intro k i y hi hk hy ht
  obtain ⟨k, rfl⟩ := round hk
  simp only [laws_markIntS.l0]
  rw [if_pos (by omega), if_pos (by omega), wrap_id (by omega) (by omega), wrap_id (by omega) (by omega), Int.toNat_natCast]
  have := ih k (i + 1) (y.set i (a + i)) (by omega) (by omega) (by simpa using hy) (by rw [take_set_succ _ _ (by omega), ht, marks_snoc])
  rw [show a + (i : Int) + 1 = a + ((i + 1 : Nat) : Int) by push_cast; omega]
  simpa using this
theorem markIntS (y : List Int) (a : Int) (ha : 0 ≤ a) (hb : a + y.length ≤ 1000000000) (k : Nat) (hk : y.length < k) : laws_markIntS.f k y a = some (a + y.length, marks a y.length) := by
 unfold laws_markIntS.f
 have := markIntS_l0 y.length a ha hb y.length k 0 y (by omega) hk rfl (by simp [marks])
 simpa using this
theorem heldIntS_l0 (n : Nat) (a : Int) (ha : 0 ≤ a) (hb : a + n ≤ 1000000000) : ∀ (d k i : Nat), i + d = n → d < k → laws_heldIntS.l0 k (marks a n) (a + i) (i : Int) = some (a + n) := by
 intro d
 induction d with
 | zero =>
  intro k i hi hk
  obtain ⟨k, rfl⟩ := round hk
  simp only [laws_heldIntS.l0]
  rw [if_neg (by rw [marks_length]; omega)]
  have : i = n := by omega
  subst this
  rfl
 | succ d ih =>
  intro k i hi hk
  obtain ⟨k, rfl⟩ := round hk
  simp only [laws_heldIntS.l0]
  rw [if_pos (by rw [marks_length]; omega), if_pos (by omega), marks_rd n a i (by omega), if_pos rfl, wrap_id (by omega) (by omega), wrap_id (by omega) (by omega)]
  have := ih k (i + 1) (by omega) (by omega)
  rw [show a + (i : Int) + 1 = a + ((i + 1 : Nat) : Int) by push_cast; omega]
  simpa using this
theorem heldIntS (n : Nat) (a : Int) (ha : 0 ≤ a) (hb : a + n ≤ 1000000000) (k : Nat) (hk : n < k) : laws_heldIntS.f k (marks a n) a = some (a + n) := by
 unfold laws_heldIntS.f
 have := heldIntS_l0 n a ha hb n k 0 (by omega) hk
 simpa using this

end Go.Proofs.Ytligcknlmbgbiaa.Pure
