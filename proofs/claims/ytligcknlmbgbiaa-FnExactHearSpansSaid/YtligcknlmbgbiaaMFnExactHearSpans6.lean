/- FnExactHearSpans: for every input that can be read, the law returns true and its arguments read as before. Conditions: none beyond the row's own. (Part 7 of 7: contracts made by pw.py with the kit's print, contracts by hand, plain laws, the row.) -/
import Derived.Test.YtligcknlmbgbiaaMFnExactHearSpans5
import Derived.Test.YtligcknlmbgbiaaRows
import Derived.WalkKit
import Derived.ProofKit
import Derived.OpenShut
import Derived.ShutString
import Derived.ChangeOld
import Derived.Below
import Derived.SizedLaws
import Derived.Carry

namespace Go.Proofs.Ytligcknlmbgbiaa.Pure
open Go.RowKit Go.Proofs.Ytligcknlmbgbiaa.P Go.Proofs.YtligcknlmbgbiaaW.PrintWords Go.Proofs.YtligcknlmbgbiaaW.PrintLast Go.Proofs.Ytligcknlmbgbiaa.Opn
set_option linter.unusedVariables false
set_option linter.unusedSimpArgs false

def mkSpan (a : Int) (n : Nat) : List S59 := (List.range n).map fun i : Nat => ⟨a + 2 * (i : Int), a + 2 * (i : Int) + 1⟩
theorem mkSpan_length (a : Int) (n : Nat) : (mkSpan a n).length = n := by simp [mkSpan]
theorem mkSpan_snoc (a : Int) (n : Nat) : mkSpan a (n + 1) = mkSpan a n ++ [(fun i : Nat => (⟨a + 2 * (i : Int), a + 2 * (i : Int) + 1⟩ : S59)) n] := by
 unfold mkSpan
 rw [List.range_succ, List.map_append]
 rfl
theorem mkSpan_rd (a : Int) (n i : Nat) (h : i < n) : rd_T59 (mkSpan a n) (i : Int) = (fun i : Nat => (⟨a + 2 * (i : Int), a + 2 * (i : Int) + 1⟩ : S59)) i := by
 rw [rdSpan _ _ (by rw [mkSpan_length]; exact h)]
 simp [mkSpan]
theorem rd_setSpan (l : List S59) (i : Nat) (v : S59) (h : i < l.length) : rd_T59 (l.set i v) (i : Int) = v := by
 rw [rdSpan _ _ (by simpa using h)]
 simp
theorem markSpanS_l0 (n : Nat) (a : Int) (ha : 0 ≤ a) (hb : a + 2 * n ≤ 1000000000) : ∀ (d k i : Nat) (y : List S59), i + d = n → d < k → y.length = n → y.take i = mkSpan a i → laws_markSpanS.l0 k y (a + 2 * i) (i : Int) = some (a + 2 * n, mkSpan a n) := by
 intro d
 induction d with
 | zero =>
  intro k i y hi hk hy ht
  obtain ⟨k, rfl⟩ := round hk
  simp only [laws_markSpanS.l0]
  rw [if_neg (by omega)]
  have : i = n := by omega
  subst this
  rw [List.take_of_length_le (by omega)] at ht
  rw [ht]
 | succ d ih =>
  intro k i y hi hk hy ht
  obtain ⟨k, rfl⟩ := round hk
  simp only [laws_markSpanS.l0, Option.bind_some, Int.toNat_natCast, rd_setSpan _ _ _ (show i < y.length by omega), List.set_set, wrap_id (x := a + 2 * (i : Int) + 1) (by omega) (by omega), wrap_id (x := a + 2 * (i : Int) + 1 + 1) (by omega) (by omega)]
  rw [if_pos (by omega), if_pos (by omega), wrap_id (x := (i : Int) + 1) (by omega) (by omega)]
  have := ih k (i + 1) (y.set i ((fun i : Nat => (⟨a + 2 * (i : Int), a + 2 * (i : Int) + 1⟩ : S59)) i)) (by omega) (by omega) (by simpa using hy) (by rw [take_set_succ _ _ (by omega), ht, mkSpan_snoc])
  rw [show a + 2 * (i : Int) + 1 + 1 = a + 2 * ((i + 1 : Nat) : Int) by push_cast; omega]
  simpa using this
theorem markSpanS (y : List S59) (a : Int) (ha : 0 ≤ a) (hb : a + 2 * y.length ≤ 1000000000) (k : Nat) (hk : y.length < k) : laws_markSpanS.f k y a = some (a + 2 * y.length, mkSpan a y.length) := by
 unfold laws_markSpanS.f
 have := markSpanS_l0 y.length a ha hb y.length k 0 y (by omega) hk rfl (by simp [mkSpan])
 simpa using this
theorem heldSpanS_l0 (n : Nat) (a : Int) (ha : 0 ≤ a) (hb : a + 2 * n ≤ 1000000000) : ∀ (d k i : Nat), i + d = n → d < k → laws_heldSpanS.l0 k (mkSpan a n) (a + 2 * i) (i : Int) = some (a + 2 * n) := by
 intro d
 induction d with
 | zero =>
  intro k i hi hk
  obtain ⟨k, rfl⟩ := round hk
  simp only [laws_heldSpanS.l0]
  rw [if_neg (by rw [mkSpan_length]; omega)]
  have : i = n := by omega
  subst this
  rfl
 | succ d ih =>
  intro k i hi hk
  obtain ⟨k, rfl⟩ := round hk
  simp only [laws_heldSpanS.l0, mkSpan_rd a n i (by omega), wrap_id (x := a + 2 * (i : Int) + 1) (by omega) (by omega), wrap_id (x := a + 2 * (i : Int) + 1 + 1) (by omega) (by omega)]
  rw [if_pos (by rw [mkSpan_length]; omega), if_pos (by omega)]
  have := ih k (i + 1) (by omega) (by omega)
  rw [wrap_id (x := (i : Int) + 1) (by omega) (by omega), show a + 2 * (i : Int) + 1 + 1 = a + 2 * ((i + 1 : Nat) : Int) by push_cast; omega]
  simpa using this
theorem heldSpanS (n : Nat) (a : Int) (ha : 0 ≤ a) (hb : a + 2 * n ≤ 1000000000) (k : Nat) (hk : n < k) : laws_heldSpanS.f k (mkSpan a n) a = some (a + 2 * n) := by
 unfold laws_heldSpanS.f
 have := heldSpanS_l0 n a ha hb n k 0 (by omega) hk
 simpa using this

end Go.Proofs.Ytligcknlmbgbiaa.Pure

namespace Go.Proofs.Ytligcknlmbgbiaa.Pure
open Go.RowKit Go.Proofs.Ytligcknlmbgbiaa.P Go.Proofs.YtligcknlmbgbiaaW.PrintWords Go.Proofs.YtligcknlmbgbiaaW.PrintLast Go.Proofs.Ytligcknlmbgbiaa.Opn
set_option linter.unusedVariables false
set_option linter.unusedSimpArgs false

theorem markSender (a : Int) (l1 : List Sp) (l2 : List Int) (h1 : l1.length ≤ 1048576) (h2 : l2.length ≤ 1048576) (k : Nat) (hk1 : l1.length < k) (hk2 : l2.length < k) : laws_markSender.f k a l1 l2 1 = some (1 + 2 * (l1.length : Int) + (l2.length : Int), mkSpan 1 l1.length, marks (1 + 2 * (l1.length : Int)) l2.length) := by
 unfold laws_markSender.f
 rw [markSpanS l1 1 (by omega) (by omega) k hk1, Option.bind_some]
 dsimp only
 rw [markIntS l2 _ (by omega) (by omega) k hk2, Option.bind_some]
theorem heldSender (a : Int) (n m : Nat) (h1 : n ≤ 1048576) (h2 : m ≤ 1048576) (k : Nat) (hk1 : n < k) (hk2 : m < k) : laws_heldSender.f k a (mkSpan 1 n) (marks (1 + 2 * (n : Int)) m) 1 = some (1 + 2 * (n : Int) + (m : Int)) := by
 unfold laws_heldSender.f
 rw [heldSpanS n 1 (by omega) (by omega) k hk1, Option.bind_some, if_neg (by omega), heldIntS m _ (by omega) (by omega) k hk2, Option.bind_some, if_neg (by omega)]

end Go.Proofs.Ytligcknlmbgbiaa.Pure

namespace Go.Proofs.Ytligcknlmbgbiaa.Pure
open Go.RowKit Go.Proofs.Ytligcknlmbgbiaa.P Go.Proofs.YtligcknlmbgbiaaW.PrintWords Go.Proofs.YtligcknlmbgbiaaW.PrintLast Go.Proofs.Ytligcknlmbgbiaa.Opn
set_option linter.unusedVariables false
set_option linter.unusedSimpArgs false

theorem FnExactHearSpans : laws_FnExactHearSpans.Pure := by
 intro a l1 l2 l _ h1 h2 h3
 by_cases hs : (l1.length : Int) + l2.length ≤ 1048576
 ·by_cases hs2 : (l.length : Int) ≤ 1048576 - (l1.length : Int) - (l2.length : Int)
  ·obtain ⟨k, hk⟩ : ∃ k : Nat, 3500000 < k := ⟨3500001, by omega⟩
   refine ⟨k + 1 + 1 + 1, ?_⟩
   have g1 : (l1.map cvSpan).length ≤ 1048576 := by simp only [List.length_map]; omega
   have g2 : l2.length ≤ 1048576 := by omega
   have g0 : l1.length ≤ 1048576 := by omega
   have g3 : l.length ≤ 1048576 := by omega
   have g4 : (l.map cvSpan).length ≤ 1048576 := by simp only [List.length_map]; omega
   obtain ⟨⟨b, c1, c2, fr, lo, f⟩, q1, q2, q3, q4, hb⟩ := hear_both a (l1.map cvSpan) (l.map cvSpan) l2 g1 g4 g2
   dsimp only at q1 q2 q3 q4
   have d1 : c1.length ≤ 1048576 := by omega
   have d2 : c2.length ≤ 1048576 := by omega
   have d3 : fr.length ≤ 1048576 := by omega
   have d4 : lo.length ≤ 1048576 := by omega
   have hb' : ∀ k, 3400000 < k → spec_HearSpans.f k a (l1.map cvSpan) l2 (l.map cvSpan) = some (b, c1, c2, fr, lo, f) ∧ impl_HearSpans.f k a (l1.map cvSpan) l2 (l.map cvSpan) = some (b, c1, c2, fr, lo, f) := fun k hk => hb k (by omega)
   unfold laws_FnExactHearSpans.f
   rw [szSender_ok a l1 l2 hs, Option.bind_some, if_neg (by omega), szSpanS_ok l _ (by omega) (by omega) hs2, Option.bind_some, if_neg (by omega)]
   simp only [toSender a l1 l2 g0 g2 (k + 1 + 1 + 1) (by omega) (by omega), toSpanS l g3 (k + 1 + 1 + 1) (by omega), Option.bind_some, (hb' (k + 1 + 1 + 1) (by omega)).1, (hb' (k + 1 + 1 + 1) (by omega)).2, eqSender b c1 c2 d1 d2 (k + 1 + 1 + 1) (by omega) (by omega), eqIntS fr fr d3 (k + 1 + 1 + 1) (by omega), eqIntS lo lo d4 (k + 1 + 1 + 1) (by omega), if_true, bne_self_eq_false, decide_true]
   rw [laws_FnExactHearSpans.j0]
   simp only [Bool.false_eq_true, if_false, toSender a l1 l2 g0 g2 (k + 1 + 1) (by omega) (by omega), Option.bind_some, eqSender a (l1.map cvSpan) l2 g1 g2 (k + 1 + 1) (by omega) (by omega), if_true, toSpanS l g3 (k + 1 + 1) (by omega), eqSpanS (l.map cvSpan) g4 (k + 1 + 1) (by omega), markSender a (l1.map cvSpan) l2 g1 g2 (k + 1 + 1) (by omega) (by omega), markSpanS (l.map cvSpan) (1 + 2 * ((l1.map cvSpan).length : Int) + (l2.length : Int)) (by omega) (by omega) (k + 1 + 1) (by omega), eqSender b c1 c2 d1 d2 (k + 1 + 1) (by omega) (by omega), eqIntS fr fr d3 (k + 1 + 1) (by omega), eqIntS lo lo d4 (k + 1 + 1) (by omega), bne_self_eq_false, decide_true]
   rw [if_neg (by omega), laws_FnExactHearSpans.j1]
   simp only [Bool.false_eq_true, if_false, markSender b c1 c2 d1 d2 (k + 1) (by omega) (by omega), Option.bind_some, markIntS fr (1 + 2 * (c1.length : Int) + (c2.length : Int)) (by omega) (by omega) (k + 1) (by omega), markIntS lo (1 + 2 * (c1.length : Int) + (c2.length : Int) + (fr.length : Int)) (by omega) (by omega) (k + 1) (by omega), heldSender b c1.length c2.length d1 d2 (k + 1) (by omega) (by omega), heldIntS fr.length (1 + 2 * (c1.length : Int) + (c2.length : Int)) (by omega) (by omega) (k + 1) (by omega), heldIntS lo.length (1 + 2 * (c1.length : Int) + (c2.length : Int) + (fr.length : Int)) (by omega) (by omega) (k + 1) (by omega), toSender a l1 l2 g0 g2 (k + 1) (by omega) (by omega), toSpanS l g3 (k + 1) (by omega), (hb' (k + 1) (by omega)).2, eqSender b c1 c2 d1 d2 (k + 1) (by omega) (by omega), eqIntS fr fr d3 (k + 1) (by omega), eqIntS lo lo d4 (k + 1) (by omega), if_true, bne_self_eq_false, decide_true]
   rw [if_neg (by omega), if_neg (by omega), if_neg (by omega), laws_FnExactHearSpans.j2]
   simp only [Bool.false_eq_true, if_false, heldSender b c1.length c2.length d1 d2 k (by omega) (by omega), Option.bind_some, heldIntS fr.length (1 + 2 * (c1.length : Int) + (c2.length : Int)) (by omega) (by omega) k (by omega), heldIntS lo.length (1 + 2 * (c1.length : Int) + (c2.length : Int) + (fr.length : Int)) (by omega) (by omega) k (by omega), if_true]
   rw [if_neg (by omega), if_neg (by omega), if_neg (by omega)]
  ·refine ⟨0, ?_⟩
   unfold laws_FnExactHearSpans.f
   rw [szSender_ok a l1 l2 hs, Option.bind_some, if_neg (by omega), szSpanS_big l _ (by omega) (by omega) h3.1 hs2, Option.bind_some, if_pos (by omega)]
 ·refine ⟨0, ?_⟩
  unfold laws_FnExactHearSpans.f
  rw [szSender_big a l1 l2 h1.1 h2.1 hs, Option.bind_some, if_pos (by omega)]

end Go.Proofs.Ytligcknlmbgbiaa.Pure

namespace Go.Proofs.Ytligcknlmbgbiaa.fnExactHearSpans
open Go.ChangeShapes Go.WideShapes Go.ChangeAt Go.RowKit Go.Proofs.Ytligcknlmbgbiaa.P Go.Proofs.Ytligcknlmbgbiaa.Opn Go.Proofs.YtligcknlmbgbiaaW.PrintWords
open Go.ChangeMaps (open_string shut_string)
set_option linter.unusedVariables false
theorem own : ownKnob Try.prog.godebug = none := by kernel_rfl
theorem laidOut : laidOutB Try.prog = true := by kernel_rfl
set_option maxRecDepth 100000 in
theorem lifted (os : Os) (started : os.Started) (H : Type) (enc : TypeId × Value → H) :
  ReturnsInHanded {} Try.checked os 5 .any (Rows.fnExactHearSpansSpec.pre6 enc Try.prog Try.f5 Rows.fnExactHearSpansRow.domain false) (Rows.fnExactHearSpansSpec.post enc Try.prog Try.f5 false true false false) := by
 refine returnsInHanded_of_change_sized (C := Try.checked) own started (by kernel_rfl) Try.func5
  (ChangeSpec.witness6 (enc := enc) (C := Try.checked) false ⟨#[], #[.agg #[.int .i64 0, .slice none 0 0, .slice none 0 0], .slice none 0 0], []⟩ 8 (by kernel_rfl) (by kernel_rfl) (by kernel_rfl) (by kernel_rfl)) ?_
 intro W base args ds gs before hval0 hW hcnd hsz0 _
 have hval : ∀ (j : Nat) t v, Try.f5.params[j]? = some t → args[j]? = some v → Value.okWide Try.prog W .any base t v := hval0
 have hW' := hW
 obtain ⟨p, q, hA0, hV, rfl, hfz, hnd⟩ := hW
 have hA : DataW.TrodAll enc Try.prog W 0 (fun _ => true) true Try.f5.params.toList args.toList ds p := hA0
 rw [Try.params5] at hA hval
 obtain ⟨v0, vs0, d0, ds0, p0, q0, hargs, rfl, rfl, h0, r0⟩ := trodAll_cons hA
 obtain ⟨v1, vs1, d1, ds1, p1, q1, rfl, rfl, rfl, h1, r1⟩ := trodAll_cons r0
 obtain ⟨rfl, rfl, rfl⟩ := trodAll_nil r1
 obtain rfl : args = #[v0, v1] := by cases args; simp_all
 obtain ⟨rfl, rfl⟩ := trodVars_none hV
 have k0 := h0
 have lt0 : ∀ x ∈ p0, x.block < W.heap.size := by obtain ⟨m, hm⟩ := k0; exact DataW.trod_lt m _ _ _ hm
 obtain ⟨fuel0, hf0⟩ := h0
 obtain ⟨y0, hK0, hw0⟩ := opens25.out enc W fuel0 _ _ hf0
 obtain ⟨cs0, rfl, _⟩ := okWide_struct Try.underlying25 (hval 0 25 v0 rfl rfl)
 obtain ⟨A0_1, c0_1, A0_2, c0_2, hcs0, hc0_1, hr0_1, hc0_2, hr0_2⟩ := k25_open hK0
 obtain rfl : cs0 = #[.int .i64 y0.f0, .slice A0_1 y0.f1.length c0_1, .slice A0_2 y0.f2.length c0_2] := by simpa [Value.cells, ← Array.toList_inj] using hcs0
 have k1 := h1
 have lt1 : ∀ x ∈ p1, x.block < W.heap.size := by obtain ⟨m, hm⟩ := k1; exact DataW.trod_lt m _ _ _ hm
 obtain ⟨fuel1, hf1⟩ := h1
 obtain ⟨y1, hK1, hw1⟩ := opens22.out enc W fuel1 _ _ hf1
 obtain ⟨a1, len1, cap1, rfl⟩ := okWide_slice Try.underlying22 (hval 1 22 v1 rfl rfl)
 obtain ⟨A1, c1, hcs1, hc1, hr1⟩ := hK1
 simp only [Value.cells, List.cons.injEq, Value.slice.injEq, and_true] at hcs1
 obtain ⟨rfl, rfl, rfl⟩ := hcs1
 obtain ⟨k_, hP⟩ := Pure.FnExactHearSpans y0.f0 y0.f1 y0.f2 y1 hw0.1 hw0.2.1 hw0.2.2 hw1
 refine (laws_FnExactHearSpans.calls k_ y0.f0 _ _ y0.f1 _ _ y0.f2 _ _ y1 true W hr0_1 hc0_1 hr0_2 hc0_2 hr1 hc1 hP).mono fun e W' he => ?_
 obtain ⟨rfl, hd⟩ := he
 have bel : Below W.heap.size W W' := hd
 exact ⟨_, rfl, _, _, _, [], _, [], hW', trodAll_mk1 (shut_bool Try.underlying4 _), (trodAll_cons_mk (Below.trod laidOut (by kernel_rfl) (of_decide_eq_true (by kernel_rfl)) k0 bel lt0) (trodAll_cons_mk (Below.trod laidOut (by kernel_rfl) (of_decide_eq_true (by kernel_rfl)) k1 bel lt1) trodAll_mk0)), rfl, bel.frame _, fun h => by cases h⟩
theorem over : Rows.fnExactHearSpansRow.holds Try.pinned (OpenSpec.ofChange Rows.fnExactHearSpansSpec) :=
 OpenClaim.holds_of_wide 5 Try.f5 rfl rfl rfl rfl rfl rfl rfl ⟨rfl, rfl, rfl, rfl, rfl⟩ rfl rfl rfl rfl rfl (by kernel_rfl) Try.func5 (by kernel_rfl)
  (of_decide_eq_true (by kernel_rfl)) (by unfold Func.isWrapper; first | (rw [if_pos (by decide +kernel)]; kernel_rfl) | (rw [if_neg (by decide +kernel)]; exact ⟨rfl, rfl⟩))
  (fun os started H enc _ => lifted os started H enc)
end Go.Proofs.Ytligcknlmbgbiaa.fnExactHearSpans
namespace Go.Proofs.Ytligcknlmbgbiaa
/-- The row. -/
theorem fnExactHearSpans_holds : Rows.FnExactHearSpansSaid := fnExactHearSpans.over
#print axioms fnExactHearSpans_holds
end Go.Proofs.Ytligcknlmbgbiaa
