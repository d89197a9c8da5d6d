/- FnExactHearSpans: for every input that can be read, the law returns true and its arguments read as before. Conditions: none beyond the row's own. (Part 4 of 7: contracts made by pw.py with the kit's print, contracts by hand, plain laws, the row.) -/
import Derived.Test.YtligcknlmbgbiaaMFnExactHearSpans2
import Derived.Shelf.Abstract
import Derived.WalkSpells
import Derived.Sort.OwnSortedInts
import Derived.Shelf.SlSortCmp.WholeK
import Derived.Shelf.SlSortCmp.NoneTotal
import Derived.Shelf.Spec.SlicesGrow
import Derived.Lib.SliceRun
import Derived.Shelf.SortM.Plain
import Derived.Shelf.SortM.SortNone

namespace Go.Proofs.Ytligcknlmbgbiaa.P
open Go.RowKit Go.Proofs.YtligcknlmbgbiaaW.PrintWords Go.Proofs.YtligcknlmbgbiaaW.PrintLast Go.Proofs.YtligcknlmbgbiaaW.PrintMore
attribute [local go_sem] max2_int min2_int max_two min_two max_three min_three max_four min_four
set_option linter.unusedVariables false
set_option linter.unusedSimpArgs false

open Go.Shelf
def encXSpan (x : S59) : Value := .agg #[.int .i64 x.f0, .int .i64 x.f1]
/-- A closure that tells a plain predicate of such structs, in every world in which all that lay in w lies unturned. -/
def PredSpan (g : Nat) (lb : Array Value) (p : S59 → Bool) (w : World) : Prop :=
  ∀ (W : World) (x : S59), Below w.heap.size w W → Calls Try.prog g (#[encXSpan x] ++ lb) W fun e w' => e = .returned (.bool (p x)) ∧ Below w.heap.size w w'
def idxFSpan (p : S59 → Bool) : List S59 → Int → Int
  | [], _ => -1
  | x :: l, i => if p x then i else idxFSpan p l (i + 1)
theorem idxFSpan_any (p : S59 → Bool) (l : List S59) : ∀ i : Int, 0 ≤ i → (decide (idxFSpan p l i ≥ 0) = l.any p) := by
  induction l with
  | nil => intro i _; rfl
  | cons x l ih =>
    intro i hi
    unfold idxFSpan
    cases hp : p x with
    | true => simp [hp, hi]
    | false => simp only [Bool.false_eq_true, if_false, List.any_cons, hp, Bool.false_or]; exact ih (i + 1) (by omega)
set_option maxHeartbeats 2000000 in
theorem indexFuncSpan (g : Nat) (lb : Array Value) (p : S59 → Bool) (eg : ∀ args w, (callFunc g args).run Try.prog w = .ok (.enter g args) w) (A0 : Option Addr) (c0 : Nat) (l0 : List S59) (w : World)
    (hp : PredSpan g lb p w) (hr0 : Kd.C k59 w A0 l0.length l0) (hc0 : l0.length ≤ c0) :
    Calls Try.prog 82 #[.slice A0 l0.length c0, .func (.func g) #[] lb] w fun e w' => e = .returned (.int .i64 (idxFSpan p l0 0)) ∧ Below w.heap.size w w' := by
  have hn : l0.length ≤ 9223372036854775807 := hr0.2.1
  have HR := Aside0.mk hr0
  have HP := Aside0.mk hp
  have hu := Try.underlying59
  clear hp hr0
  go_enter Try.func82, Try.ntmps82
  go_wp2
  go_loopg [5, 8] l0.length (fun gg _ s8 wr => ∃ kk : Nat, kk ≤ l0.length ∧ l0.length - kk ≤ gg ∧ s8 = .int .i64 kk ∧ Aside0 (Below w.heap.size w wr) ∧ Aside0 (idxFSpan p l0 0 = idxFSpan p (l0.drop kk) kk))
  case atStart => exact ⟨0, Nat.zero_le _, by omega, rfl, ⟨Below.refl _ w⟩, ⟨by simp⟩⟩
  case round =>
    obtain ⟨kk, hkk, hg, rfl, HD, HE⟩ := hrel
    by_cases hlt : kk < l0.length
    · have hltz : (kk : Int) < (l0.length : Int) := by omega
      obtain ⟨ad, e, hx0, hx1⟩ := at_T59 HR.out (kk : Int) (by omega) hltz
      cases e
      rw [Int.toNat_natCast] at hx0 hx1
      replace hx0 := (HD.out.cell (World.block_lt_of_cell? w _ hx0)).trans hx0
      replace hx1 := (HD.out.cell (World.block_lt_of_cell? w _ hx1)).trans hx1
      have hcall : Calls Try.prog g (#[encXSpan (rd_T59 l0 kk)] ++ lb) wr fun e w' => e = .returned (.bool (p (rd_T59 l0 kk))) ∧ Below w.heap.size w w' := HP.out _ _ HD.out
      have hd : l0.drop kk = rd_T59 l0 kk :: l0.drop (kk + 1) := by
        rw [List.drop_eq_getElem_cons hlt]
        simp [rd_T59, List.getD_eq_getElem?_getD, List.getElem?_eq_getElem hlt]
      have HS := Aside0.mk (show idxFSpan p l0 0 = if p (rd_T59 l0 kk) then (kk : Int) else idxFSpan p (l0.drop (kk + 1)) ((kk : Int) + 1) by rw [HE.out, hd]; rfl)
      unfold encXSpan at hcall
      clear hd HE HD
      generalize rd_T59 l0 (kk : Int) = y at hx0 hx1 hcall HS
      cases hq : p y with
      | true =>
        rw [hq] at hcall HS
        have HF := Aside0.mk hcall
        clear hcall hq
        go_wp2_with (go_at_fn g; refine HF.out.mono ?_; rintro e w' ⟨rfl, hb⟩)
        go_ret
        exact ⟨by rw [HS.out]; rfl, hb⟩
      | false =>
        rw [hq] at hcall HS
        have HF := Aside0.mk hcall
        clear hcall hq
        go_wp2_with (go_at_fn g; refine HF.out.mono ?_; rintro e w' ⟨rfl, hb⟩; have HB := Aside0.mk hb; clear hb)
        go_roundg (l0.length - (kk + 1))
        case measure => omega
        case rel => exact ⟨kk + 1, by omega, by omega, by go_num, HB, ⟨by rw [HS.out]; rfl⟩⟩
    · have hltz : ¬ (kk : Int) < (l0.length : Int) := by omega
      have hk : kk = l0.length := by omega
      go_wp2
      go_ret
      refine ⟨?_, HD.out⟩
      rw [HE.out, hk]
      simp [idxFSpan]
set_option maxHeartbeats 2000000 in
theorem containsFuncSpan (g : Nat) (lb : Array Value) (p : S59 → Bool) (eg : ∀ args w, (callFunc g args).run Try.prog w = .ok (.enter g args) w) (A0 : Option Addr) (c0 : Nat) (l0 : List S59) (w : World)
    (hp : PredSpan g lb p w) (hr0 : Kd.C k59 w A0 l0.length l0) (hc0 : l0.length ≤ c0) :
    Calls Try.prog 69 #[.slice A0 l0.length c0, .func (.func g) #[] lb] w fun e w' => e = .returned (.bool (l0.any p)) ∧ Below w.heap.size w w' := by
  have HI := Aside0.mk (indexFuncSpan g lb p eg A0 c0 l0 w hp hr0 hc0)
  have HA := Aside0.mk (idxFSpan_any p l0 0 (Int.le_refl 0))
  clear hp hr0 hc0 eg
  go_enter Try.func69, Try.ntmps69
  go_wp2_with (go_at_call 82; refine HI.out.mono ?_; rintro e w' ⟨rfl, hb⟩)
  go_ret
  exact ⟨by rw [← HA.out]; rfl, hb⟩

end Go.Proofs.Ytligcknlmbgbiaa.P

namespace Go.Proofs.Ytligcknlmbgbiaa.P
open Go.RowKit Go.Proofs.YtligcknlmbgbiaaW.PrintWords Go.Proofs.YtligcknlmbgbiaaW.PrintLast Go.Proofs.YtligcknlmbgbiaaW.PrintMore
attribute [local go_sem] max2_int min2_int max_two min_two max_three min_three max_four min_four
set_option linter.unusedVariables false
set_option linter.unusedSimpArgs false

/-! ### impl_has: function 45 (by hand) -/
def inSpan (n : Int) (x : S59) : Bool := decide (n ≥ x.f0) && decide (n < x.f1)
set_option maxHeartbeats 2000000 in
theorem has_pred (B : Nat) (n : Int) (w : World) (hB : B < w.heap.size) (hc : w.cell? ⟨B, 0, none⟩ = some (.int .i64 n)) : PredSpan 70 #[.pointer (some ⟨B, 0, none⟩)] (inSpan n) w := by
 intro W x hb
 have hc' := (hb.cell (p := ⟨B, 0, none⟩) hB).trans hc
 have hBW : B < W.heap.size := Nat.lt_of_lt_of_le hB hb.size
 have hcA : ∀ o, (W.alloc o).cell? ⟨B, 0, none⟩ = some (.int .i64 n) := fun o => (World.cell?_alloc_old W o ⟨B, 0, none⟩ (Nat.ne_of_lt hBW)).trans hc'
 clear hc
 have HB := sA hb
 have HS := sA hb.size
 clear hb
 have hu := Try.underlying59
 show Calls Try.prog 70 #[.agg #[.int .i64 x.f0, .int .i64 x.f1], .pointer (some ⟨B, 0, none⟩)] W fun e w' => e = .returned (.bool (decide (n ≥ x.f0) && decide (n < x.f1))) ∧ Below w.heap.size w w'
 generalize x.f0 = u
 generalize x.f1 = v
 by_cases h1 : n ≥ u
 ·have c1 : decide (u ≤ n) = true := decide_eq_true h1
  have c2 : decide (n ≥ u) = true := decide_eq_true h1
  clear h1
  go_enter Try.func70, Try.ntmps70
  go_wp2
  go_ret
  exact ⟨by simp [c1, c2], by repeat (first | exact HB.out | apply below_alloc_of HS.out | apply pw_below_drewN)⟩
 ·have c1 : decide (u ≤ n) = false := decide_eq_false h1
  have c2 : decide (n ≥ u) = false := decide_eq_false h1
  clear h1
  go_enter Try.func70, Try.ntmps70
  go_wp2
  go_ret
  exact ⟨by simp [c1, c2], by repeat (first | exact HB.out | apply below_alloc_of HS.out | apply pw_below_drewN)⟩
def impl_has.f (l0 : List S59) (a1 : Int) : Option (Bool) := some (l0.any (inSpan a1))
set_option maxHeartbeats 2000000 in
theorem impl_has.calls (A0 : Option Addr) (c0 : Nat) (l0 : List S59) (a1 : Int) (r : Bool) (w : World) (hr0 : Kd.C k59 w A0 l0.length l0) (hc0 : l0.length ≤ c0) (h : impl_has.f l0 a1 = some r) :
  Calls Try.prog 45 #[.slice A0 l0.length c0, .int .i64 a1] w fun e w' => e = .returned (.bool r) ∧ Below w.heap.size w w' := by
 obtain rfl := Option.some.inj h
 clear h
 have HQ : ∀ B W, Below w.heap.size w W → B < W.heap.size → W.cell? ⟨B, 0, none⟩ = some (.int .i64 a1) → _ := fun B W hb h1 h2 => containsFuncSpan 70 #[.pointer (some ⟨B, 0, none⟩)] (inSpan a1) (Go.Proofs.enters_of Try.func70 (by kernel_rfl) rfl) A0 c0 l0 W (has_pred B a1 W h1 h2) (Kd.C_below hr0 hb) hc0
 have HQ' := sA HQ
 clear HQ hr0 hc0
 generalize l0.any (inSpan a1) = b at HQ' ⊢
 generalize l0.length = n0 at HQ' ⊢
 go_enter Try.func45, Try.ntmps45
 go_wp2_with (go_at_call 69; refine below_calls w (HQ'.out _ _ (by repeat (first | exact Below.refl _ _ | apply below_alloc | apply pw_below_drewN)) (by simp) (by go_simp)) (by repeat (first | exact Below.refl _ _ | apply below_alloc | apply pw_below_drewN)) ?_; rintro e w' ⟨⟨rfl, hd⟩, hb⟩; have HB := sA (hb hd); clear hb hd)
 go_ret
 exact ⟨rfl, HB.out⟩


end Go.Proofs.Ytligcknlmbgbiaa.P

namespace Go.Proofs.Ytligcknlmbgbiaa.P
open Go.RowKit Go.Proofs.YtligcknlmbgbiaaW.PrintWords Go.Proofs.YtligcknlmbgbiaaW.PrintLast Go.Proofs.YtligcknlmbgbiaaW.PrintMore
attribute [local go_sem] max2_int min2_int max_two min_two max_three min_three max_four min_four
set_option linter.unusedVariables false
set_option linter.unusedSimpArgs false

/-! ### impl_GoodSender: function 35 -/
mutual
def impl_GoodSender.j0 : Nat → Bool → Int → List (S59) → List Int → Option (Bool)
  | 0, _, _, _, _ => none
  | k + 1, x16, x102000, x102001, x102002 => if x16 = true then (some false) else (impl_GoodSender.l0 k x102002 (x102002.length : Int) 0 x102000 x102001 x102002)
def impl_GoodSender.l0 : Nat → List Int → Int → Int → Int → List (S59) → List Int → Option (Bool)
  | 0, _, _, _, _, _, _ => none
  | k + 1, x18, x19, x20, x102000, x102001, x102002 => if x20 < x19 then (if 0 ≤ x20 then (if x20 < (x18.length : Int) then ((impl_in.f (rd x18 x20) 0 (wrap64 (x102000 - 1))).bind fun t105 => (if t105 = true then ((impl_has.f x102001 (rd x18 x20)).bind fun t106 => (if t106 = true then (some false) else (if x20 > 0 then (if 0 ≤ (wrap64 (x20 - 1)) then (if (wrap64 (x20 - 1)) < (x102002.length : Int) then (if (rd x18 x20) ≤ (rd x102002 (wrap64 (x20 - 1))) then (some false) else (impl_GoodSender.l0 k x18 x19 (wrap64 (x20 + 1)) x102000 x102001 x102002)) else (none)) else (none)) else (impl_GoodSender.l0 k x18 x19 (wrap64 (x20 + 1)) x102000 x102001 x102002)))) else (some false))) else (none)) else (none)) else (some true)
end
def impl_GoodSender.f (k : Nat) (a0_0 : Int) (l0_1 : List (S59)) (l0_2 : List Int) : Option (Bool) := (impl_in.f a0_0 0 60).bind fun t102 => (if t102 = true then ((impl_areBelow.f k l0_1 a0_0).bind fun t103 => (impl_GoodSender.j0 k (!t103) a0_0 l0_1 l0_2)) else (impl_GoodSender.j0 k true a0_0 l0_1 l0_2))
set_option maxHeartbeats 8000000 in
set_option maxRecDepth 100000 in
theorem impl_GoodSender.calls (k : Nat) (a0_0 : Int) (A0_1 : Option Addr) (c0_1 : Nat) (l0_1 : List (S59)) (A0_2 : Option Addr) (c0_2 : Nat) (l0_2 : List Int) (r : Bool) (w : World) (hr0_1 : Kd.C k59 w A0_1 l0_1.length l0_1) (hc0_1 : l0_1.length ≤ c0_1) (hr0_2 : Kd.C (Kd.int .i64) w A0_2 l0_2.length l0_2) (hc0_2 : l0_2.length ≤ c0_2) (h : impl_GoodSender.f k a0_0 l0_1 l0_2 = some r) :
  Calls Try.prog 35 #[.agg #[.int .i64 a0_0, .slice A0_1 l0_1.length c0_1, .slice A0_2 l0_2.length c0_2]] w fun e w' => e = .returned (.bool r) ∧ Below w.heap.size w w' := by
 have hu31 := Try.underlying31
 have HR0_1 := sA hr0_1
 have HC0_1 := sA hc0_1
 clear hr0_1 hc0_1
 have HR0_2 := sA hr0_2
 have HC0_2 := sA hc0_2
 clear hr0_2 hc0_2
 have HB := sA (Below.refl w.heap.size w)
 have H : ((impl_in.f a0_0 0 60).bind fun t102 => (if t102 = true then ((impl_areBelow.f k l0_1 a0_0).bind fun t103 => (impl_GoodSender.j0 k (!t103) a0_0 l0_1 l0_2)) else (impl_GoodSender.j0 k true a0_0 l0_1 l0_2))) = some r := h
 clear h
 have HC2 := sA H
 clear H
 go_enter Try.func35, Try.ntmps35
 go_upto_region 1 with (first | ((with_reducible refine gate_dst (N := 1) rfl ?_); refine box_event ?hg (N := 1) ?hd (cs := #[.int .i64 a0_0, .slice A0_1 l0_1.length c0_1, .slice A0_2 l0_2.length c0_2]) (t := 31) ?hr ?_; (case hd => rfl); (case hg => rfl); (case hr => first | (go_simp; done) | (go_simp; rfl)); intro gb101 hg w3 hbox hb; have BK101 := sA (hbox); have GW101 := sA ((by rw [hg]; exact (below_size sH) : w.heap.size ≤ gb101)); have GE101 := sA ((by rw [hg]; exact (below_size sH) : w.heap.size ≤ gb101)); replace HB := sA (below_step sH hb); clear hb hbox hg))
 (try simp only [Act.put, sI, sZ, sV])
 go_cut [16] (fun v16 wc => ∃ (kq : Nat) (x16_1 : Bool), v16 = .bool x16_1 ∧ Aside0 (impl_GoodSender.j0 kq x16_1 a0_0 l0_1 l0_2 = some r) ∧ Aside0 (kq ≤ k) ∧ Aside0 (wc.heap[gb101]? = some (.cells #[.int .i64 a0_0, (.slice A0_1 l0_1.length c0_1), (.slice A0_2 l0_2.length c0_2)] 31 (0, 0))) ∧ Aside0 (Below w.heap.size w wc))
 case first =>
  have H := HC2.out
  clear HC2
  obtain ⟨t102, A4, H⟩ := sN H
  by_cases c5 : t102 = true
  ·subst c5
   replace H := sY H
   obtain ⟨t103, A6, H⟩ := sN H
   have H' := sA H
   clear H
   obtain ⟨_, _, _, _, _, _⟩ := sD3 BK101
   go_wp2_with (first | ((with_reducible refine gate_callee (f := 63) rfl ?_); refine goesL_ (some 7) rfl rfl Try.func63 (by kernel_rfl) rfl #[.int .i64 a0_0, .int .i64 0, .int .i64 60] rfl sG ?_; (with_reducible refine (impl_in.calls a0_0 0 60 true _ A4.out).mono ?_); rintro e w' ⟨rfl, ⟨nd, rfl⟩⟩; refine ⟨_, rfl, ?_⟩) | (go_at_call 43; (with_reducible refine (impl_areBelow.calls k _ _ l0_1 a0_0 t103 _ ?side1 ?side2 A6.out).mono ?_); (case side1 => exact sK (Kd.C_below HR0_1.out sH)); (case side2 => exact HC0_1.out); rintro e w8 ⟨rfl, hb⟩; replace BK101 := sJ BK101 hb; replace HB := sA (below_step sH hb); (try clear hb); (try clear hb2); (try clear hk); (try clear hi)))
   go_meet
   case rel => exact ⟨_, (!t103), (by first | rfl | (simp; done) | (simp [*]; done)), H', ⟨by first | omega | exact Nat.le_refl _⟩, ⟨sB BK101.out⟩, ⟨sH⟩⟩
  ·replace c5 := Bool.eq_false_iff.mpr c5
   subst c5
   replace H := sX H
   have H' := sA H
   clear H
   obtain ⟨_, _, _, _, _, _⟩ := sD3 BK101
   go_wp2_with (first | ((with_reducible refine gate_callee (f := 63) rfl ?_); refine goesL_ (some 7) rfl rfl Try.func63 (by kernel_rfl) rfl #[.int .i64 a0_0, .int .i64 0, .int .i64 60] rfl sG ?_; (with_reducible refine (impl_in.calls a0_0 0 60 false _ A4.out).mono ?_); rintro e w' ⟨rfl, ⟨nd, rfl⟩⟩; refine ⟨_, rfl, ?_⟩))
   go_meet
   case rel => exact ⟨_, (true), (by first | rfl | (simp; done) | (simp [*]; done)), H', ⟨by first | omega | exact Nat.le_refl _⟩, ⟨sB BK101.out⟩, ⟨sH⟩⟩
 case rest =>
  clear HC2
  (try clear p2); (try clear c3); (try clear c5); (try clear c6)
  obtain ⟨kq, x16_1, rfl, HA, HJ1, BK101, HB⟩ := hcut
  cases kq with
  | zero => exact absurd HA.out (by simp [impl_GoodSender.j0])
  | succ kj1 =>
   have H := HA.out
   clear HA
   simp only [impl_GoodSender.j0] at H
   by_cases c10 : x16_1 = true
   ·subst c10
    replace H := sY H
    obtain rfl := Option.some.inj H
    go_wp2
    go_ret
    exact ⟨by first | rfl | (simp [errW_none, errW_some] <;> rfl) | (simp [*, errW_none, errW_some] <;> rfl), by repeat (first | (with_reducible first | exact HB.out | apply sLA | apply sLN | apply sLD | refine sLS ?_ GE101.out) | exact HB.out)⟩
   ·replace c10 := Bool.eq_false_iff.mpr c10
    subst c10
    replace H := sX H
    have H' := sA H
    clear H
    obtain ⟨_, _, _, _, _, _⟩ := sD3 BK101
    go_wp2
    go_loopg [20] kj1 (fun kq v20 w' => ∃ (x20_2 : Int), v20 = .int .i64 x20_2 ∧ Aside0 (impl_GoodSender.l0 kq l0_2 (l0_2.length : Int) x20_2 a0_0 l0_1 l0_2 = some r) ∧ Aside0 (kq ≤ kj1) ∧ Aside0 (w'.heap[gb101]? = some (.cells #[.int .i64 a0_0, (.slice A0_1 l0_1.length c0_1), (.slice A0_2 l0_2.length c0_2)] 31 (0, 0))) ∧ Aside0 (Below w.heap.size w w'))
    case atStart => exact ⟨(0), (by first | rfl | (simp; done) | (simp [*]; done)), H', ⟨Nat.le_refl _⟩, ⟨sB BK101.out⟩, ⟨sH⟩⟩
    case round =>
     clear H'
     (try clear c1); (try clear p2); (try clear c3); (try clear c5); (try clear c6); (try clear c10); (try clear p2)
     obtain ⟨x20_2, rfl, HA, HK2, BK101, HB⟩ := hrel
     cases gk with
     | zero => exact absurd HA.out (by simp [impl_GoodSender.l0])
     | succ k2 =>
      have H := HA.out
      clear HA
      simp only [impl_GoodSender.l0] at H
      by_cases c12 : x20_2 < (l0_2.length : Int)
      ·rw [if_pos c12] at H
       have c12b0 : decide (x20_2 < (l0_2.length : Int)) = true := decide_eq_true c12
       clear c12
       by_cases c13 : 0 ≤ x20_2
       ·rw [if_pos c13] at H
        have c13b0 : decide (0 ≤ x20_2) = true := decide_eq_true c13
        clear c13
        by_cases c14 : x20_2 < (l0_2.length : Int)
        ·rw [if_pos c14] at H
         have c14b0 : decide (x20_2 < (l0_2.length : Int)) = true := decide_eq_true c14
         clear c14
         obtain ⟨t105, A15, H⟩ := sN H
         by_cases c16 : t105 = true
         ·subst c16
          replace H := sY H
          obtain ⟨t106, A17, H⟩ := sN H
          by_cases c18 : t106 = true
          ·subst c18
           replace H := sY H
           obtain rfl := Option.some.inj H
           have p104 : 0 ≤ (x20_2 : Int) := of_decide_eq_true (by first | (with_reducible assumption) | assumption)
           have q104 : x20_2 < (l0_2.length : Int) := of_decide_eq_true (by first | (with_reducible assumption) | assumption)
           obtain ⟨ad104, e104, hx104_0⟩ := Kd.at_int HR0_2.out x20_2 p104 q104
           cases e104
           replace hx104_0 := (HB.out.cell (World.block_lt_of_cell? w _ hx104_0)).trans hx104_0
           replace p104 := eq_true p104
           replace q104 := eq_true q104
           obtain ⟨_, _, _, _, _, _⟩ := sD3 BK101
           go_wp2_with (first | ((with_reducible refine gate_callee (f := 63) rfl ?_); refine goesL_ (some 29) rfl rfl Try.func63 (by kernel_rfl) rfl #[.int .i64 (rd l0_2 x20_2), .int .i64 0, .int .i64 (wrap64 (a0_0 - 1))] rfl sG ?_; (with_reducible refine (impl_in.calls (rd l0_2 x20_2) 0 (wrap64 (a0_0 - 1)) true _ A15.out).mono ?_); rintro e w' ⟨rfl, ⟨nd, rfl⟩⟩; refine ⟨_, rfl, ?_⟩) | (go_at_call 45; (with_reducible refine (impl_has.calls _ _ l0_1 (rd l0_2 x20_2) true _ ?side1 ?side2 A17.out).mono ?_); (case side1 => exact sK (Kd.C_below HR0_1.out sH)); (case side2 => exact HC0_1.out); rintro e w20 ⟨rfl, hb⟩; replace BK101 := sJ BK101 hb; replace HB := sA (below_step sH hb); (try clear hb); (try clear hb2); (try clear hk); (try clear hi)))
           go_ret
           exact ⟨by first | rfl | (simp [errW_none, errW_some] <;> rfl) | (simp [*, errW_none, errW_some] <;> rfl), by repeat (first | (with_reducible first | exact HB.out | apply sLA | apply sLN | apply sLD | refine sLS ?_ GE101.out) | exact HB.out)⟩
          ·replace c18 := Bool.eq_false_iff.mpr c18
           subst c18
           replace H := sX H
           by_cases c21 : x20_2 > 0
           ·rw [if_pos c21] at H
            have c21b0 : decide (0 < x20_2) = true := decide_eq_true c21
            clear c21
            obtain ⟨ji22, hji22⟩ : ∃ j_ : Int, (wrap64 (x20_2 - 1)) = j_ := ⟨_, rfl⟩
            replace H : (if 0 ≤ (ji22) then (if (ji22) < (l0_2.length : Int) then (if (rd l0_2 x20_2) ≤ (rd l0_2 (ji22)) then (some false) else (impl_GoodSender.l0 k2 l0_2 (l0_2.length : Int) (wrap64 (x20_2 + 1)) a0_0 l0_1 l0_2)) else (none)) else (none)) = some r := by first | (rw [hji22] at H; exact H) | (simp only [hji22] at H ⊢; exact H)
            (try rw [hji22] at A15)
            (try rw [hji22] at A17)
            have hji22w : (IntKind.i64.wrap (x20_2 - 1)) = ji22 := (i64_w _).trans hji22
            by_cases c23 : 0 ≤ (ji22)
            ·rw [if_pos c23] at H
             have c23b0 : decide (0 ≤ (ji22)) = true := decide_eq_true c23
             clear c23
             by_cases c24 : (ji22) < (l0_2.length : Int)
             ·rw [if_pos c24] at H
              have c24b0 : decide ((ji22) < (l0_2.length : Int)) = true := decide_eq_true c24
              clear c24
              by_cases c25 : (rd l0_2 x20_2) ≤ (rd l0_2 (ji22))
              ·rw [if_pos c25] at H
               have c25b0 : decide ((rd l0_2 x20_2) ≤ (rd l0_2 (ji22))) = true := decide_eq_true c25
               clear c25
               obtain rfl := Option.some.inj H
               have p104 : 0 ≤ (x20_2 : Int) := of_decide_eq_true (by first | (with_reducible assumption) | assumption)
               have q104 : x20_2 < (l0_2.length : Int) := of_decide_eq_true (by first | (with_reducible assumption) | assumption)
               obtain ⟨ad104, e104, hx104_0⟩ := Kd.at_int HR0_2.out x20_2 p104 q104
               cases e104
               replace hx104_0 := (HB.out.cell (World.block_lt_of_cell? w _ hx104_0)).trans hx104_0
               replace p104 := eq_true p104
               replace q104 := eq_true q104
               obtain ⟨_, _, _, _, _, _⟩ := sD3 BK101
               go_wp2_with (first | ((with_reducible refine gate_callee (f := 63) rfl ?_); refine goesL_ (some 29) rfl rfl Try.func63 (by kernel_rfl) rfl #[.int .i64 (rd l0_2 x20_2), .int .i64 0, .int .i64 (wrap64 (a0_0 - 1))] rfl sG ?_; (with_reducible refine (impl_in.calls (rd l0_2 x20_2) 0 (wrap64 (a0_0 - 1)) true _ A15.out).mono ?_); rintro e w' ⟨rfl, ⟨nd, rfl⟩⟩; refine ⟨_, rfl, ?_⟩) | (go_at_call 45; (with_reducible refine (impl_has.calls _ _ l0_1 (rd l0_2 x20_2) false _ ?side1 ?side2 A17.out).mono ?_); (case side1 => exact sK (Kd.C_below HR0_1.out sH)); (case side2 => exact HC0_1.out); rintro e w27 ⟨rfl, hb⟩; replace BK101 := sJ BK101 hb; replace HB := sA (below_step sH hb); (try clear hb); (try clear hb2); (try clear hk); (try clear hi); obtain ⟨_, _, _, _, _, _⟩ := sD3 BK101; have p107 : 0 ≤ ((ji22) : Int) := of_decide_eq_true (by first | (with_reducible assumption) | assumption); have q107 : (ji22) < (l0_2.length : Int) := of_decide_eq_true (by first | (with_reducible assumption) | assumption); obtain ⟨ad107, e107, hx107_0⟩ := Kd.at_int HR0_2.out (ji22) p107 q107; obtain rfl : ad104 = ad107 := (by injection e107); replace hx107_0 := (HB.out.cell (World.block_lt_of_cell? w _ hx107_0)).trans hx107_0; replace p107 := eq_true p107; replace q107 := eq_true q107))
               go_ret
               exact ⟨by first | rfl | (simp [errW_none, errW_some] <;> rfl) | (simp only [← hji22]; first | rfl | (simp [errW_none, errW_some] <;> rfl)) | (simp [*, errW_none, errW_some] <;> rfl), by repeat (first | (with_reducible first | exact HB.out | apply sLA | apply sLN | apply sLD | refine sLS ?_ GE101.out) | exact HB.out)⟩
              ·rw [if_neg c25] at H
               have c25b0 : decide ((rd l0_2 x20_2) ≤ (rd l0_2 (ji22))) = false := decide_eq_false c25
               clear c25
               have H' := sA H
               clear H
               have p104 : 0 ≤ (x20_2 : Int) := of_decide_eq_true (by first | (with_reducible assumption) | assumption)
               have q104 : x20_2 < (l0_2.length : Int) := of_decide_eq_true (by first | (with_reducible assumption) | assumption)
               obtain ⟨ad104, e104, hx104_0⟩ := Kd.at_int HR0_2.out x20_2 p104 q104
               cases e104
               replace hx104_0 := (HB.out.cell (World.block_lt_of_cell? w _ hx104_0)).trans hx104_0
               replace p104 := eq_true p104
               replace q104 := eq_true q104
               obtain ⟨_, _, _, _, _, _⟩ := sD3 BK101
               go_wp2_with (first | ((with_reducible refine gate_callee (f := 63) rfl ?_); refine goesL_ (some 29) rfl rfl Try.func63 (by kernel_rfl) rfl #[.int .i64 (rd l0_2 x20_2), .int .i64 0, .int .i64 (wrap64 (a0_0 - 1))] rfl sG ?_; (with_reducible refine (impl_in.calls (rd l0_2 x20_2) 0 (wrap64 (a0_0 - 1)) true _ A15.out).mono ?_); rintro e w' ⟨rfl, ⟨nd, rfl⟩⟩; refine ⟨_, rfl, ?_⟩) | (go_at_call 45; (with_reducible refine (impl_has.calls _ _ l0_1 (rd l0_2 x20_2) false _ ?side1 ?side2 A17.out).mono ?_); (case side1 => exact sK (Kd.C_below HR0_1.out sH)); (case side2 => exact HC0_1.out); rintro e w30 ⟨rfl, hb⟩; replace BK101 := sJ BK101 hb; replace HB := sA (below_step sH hb); (try clear hb); (try clear hb2); (try clear hk); (try clear hi); obtain ⟨_, _, _, _, _, _⟩ := sD3 BK101; have p107 : 0 ≤ ((ji22) : Int) := of_decide_eq_true (by first | (with_reducible assumption) | assumption); have q107 : (ji22) < (l0_2.length : Int) := of_decide_eq_true (by first | (with_reducible assumption) | assumption); obtain ⟨ad107, e107, hx107_0⟩ := Kd.at_int HR0_2.out (ji22) p107 q107; obtain rfl : ad104 = ad107 := (by injection e107); replace hx107_0 := (HB.out.cell (World.block_lt_of_cell? w _ hx107_0)).trans hx107_0; replace p107 := eq_true p107; replace q107 := eq_true q107))
               go_roundg k2
               case measure => have := HJ1.out; have := HK2.out; omega
               case rel => exact ⟨(wrap64 (x20_2 + 1)), (by first | rfl | (simp; done) | (simp [*]; done)), H', ⟨by have := HJ1.out; have := HK2.out; omega⟩, ⟨sB BK101.out⟩, ⟨sH⟩⟩
             ·rw [if_neg c24] at H
              exact absurd H (by simp)
            ·rw [if_neg c23] at H
             exact absurd H (by simp)
           ·rw [if_neg c21] at H
            have c21b0 : decide (0 < x20_2) = false := decide_eq_false c21
            clear c21
            have H' := sA H
            clear H
            have p104 : 0 ≤ (x20_2 : Int) := of_decide_eq_true (by first | (with_reducible assumption) | assumption)
            have q104 : x20_2 < (l0_2.length : Int) := of_decide_eq_true (by first | (with_reducible assumption) | assumption)
            obtain ⟨ad104, e104, hx104_0⟩ := Kd.at_int HR0_2.out x20_2 p104 q104
            cases e104
            replace hx104_0 := (HB.out.cell (World.block_lt_of_cell? w _ hx104_0)).trans hx104_0
            replace p104 := eq_true p104
            replace q104 := eq_true q104
            obtain ⟨_, _, _, _, _, _⟩ := sD3 BK101
            go_wp2_with (first | ((with_reducible refine gate_callee (f := 63) rfl ?_); refine goesL_ (some 29) rfl rfl Try.func63 (by kernel_rfl) rfl #[.int .i64 (rd l0_2 x20_2), .int .i64 0, .int .i64 (wrap64 (a0_0 - 1))] rfl sG ?_; (with_reducible refine (impl_in.calls (rd l0_2 x20_2) 0 (wrap64 (a0_0 - 1)) true _ A15.out).mono ?_); rintro e w' ⟨rfl, ⟨nd, rfl⟩⟩; refine ⟨_, rfl, ?_⟩) | (go_at_call 45; (with_reducible refine (impl_has.calls _ _ l0_1 (rd l0_2 x20_2) false _ ?side1 ?side2 A17.out).mono ?_); (case side1 => exact sK (Kd.C_below HR0_1.out sH)); (case side2 => exact HC0_1.out); rintro e w33 ⟨rfl, hb⟩; replace BK101 := sJ BK101 hb; replace HB := sA (below_step sH hb); (try clear hb); (try clear hb2); (try clear hk); (try clear hi)))
            go_roundg k2
            case measure => have := HJ1.out; have := HK2.out; omega
            case rel => exact ⟨(wrap64 (x20_2 + 1)), (by first | rfl | (simp; done) | (simp [*]; done)), H', ⟨by have := HJ1.out; have := HK2.out; omega⟩, ⟨sB BK101.out⟩, ⟨sH⟩⟩
         ·replace c16 := Bool.eq_false_iff.mpr c16
          subst c16
          replace H := sX H
          obtain rfl := Option.some.inj H
          have p104 : 0 ≤ (x20_2 : Int) := of_decide_eq_true (by first | (with_reducible assumption) | assumption)
          have q104 : x20_2 < (l0_2.length : Int) := of_decide_eq_true (by first | (with_reducible assumption) | assumption)
          obtain ⟨ad104, e104, hx104_0⟩ := Kd.at_int HR0_2.out x20_2 p104 q104
          cases e104
          replace hx104_0 := (HB.out.cell (World.block_lt_of_cell? w _ hx104_0)).trans hx104_0
          replace p104 := eq_true p104
          replace q104 := eq_true q104
          obtain ⟨_, _, _, _, _, _⟩ := sD3 BK101
          go_wp2_with (first | ((with_reducible refine gate_callee (f := 63) rfl ?_); refine goesL_ (some 29) rfl rfl Try.func63 (by kernel_rfl) rfl #[.int .i64 (rd l0_2 x20_2), .int .i64 0, .int .i64 (wrap64 (a0_0 - 1))] rfl sG ?_; (with_reducible refine (impl_in.calls (rd l0_2 x20_2) 0 (wrap64 (a0_0 - 1)) false _ A15.out).mono ?_); rintro e w' ⟨rfl, ⟨nd, rfl⟩⟩; refine ⟨_, rfl, ?_⟩))
          go_ret
          exact ⟨by first | rfl | (simp [errW_none, errW_some] <;> rfl) | (simp [*, errW_none, errW_some] <;> rfl), by repeat (first | (with_reducible first | exact HB.out | apply sLA | apply sLN | apply sLD | refine sLS ?_ GE101.out) | exact HB.out)⟩
        ·rw [if_neg c14] at H
         exact absurd H (by simp)
       ·rw [if_neg c13] at H
        exact absurd H (by simp)
      ·rw [if_neg c12] at H
       have c12b0 : decide (x20_2 < (l0_2.length : Int)) = false := decide_eq_false c12
       clear c12
       obtain rfl := Option.some.inj H
       go_wp2
       go_ret
       exact ⟨by first | rfl | (simp [errW_none, errW_some] <;> rfl) | (simp [*, errW_none, errW_some] <;> rfl), by repeat (first | (with_reducible first | exact HB.out | apply sLA | apply sLN | apply sLD | refine sLS ?_ GE101.out) | exact HB.out)⟩

end Go.Proofs.Ytligcknlmbgbiaa.P

namespace Go.Proofs.Ytligcknlmbgbiaa.P
open Go.RowKit Go.Proofs.YtligcknlmbgbiaaW.PrintWords Go.Proofs.YtligcknlmbgbiaaW.PrintLast Go.Proofs.YtligcknlmbgbiaaW.PrintMore
attribute [local go_sem] max2_int min2_int max_two min_two max_three min_three max_four min_four
set_option linter.unusedVariables false
set_option linter.unusedSimpArgs false

/-! ### slices_Clone_int_int: function 39 (by hand) -/
def slices_Clone_int_int.f (l0 : List Int) : Option (List Int) := if l0.length ≤ 17592186044416 then some l0 else none
theorem slices_Clone_int_int.infoE : (Try.prog.info? 3).map (fun i => (i.zero, i.size, i.bytes)) = some (some (.int .i64 0), 1, 8) := by kernel_rfl
set_option maxHeartbeats 2000000 in
theorem slices_Clone_int_int.calls (A0 : Option Addr) (c0 : Nat) (l0 : List Int) (r : List Int) (w : World) (hr0 : Kd.C (Kd.int .i64) w A0 l0.length l0) (hc0 : l0.length ≤ c0) (h : slices_Clone_int_int.f l0 = some r) :
  Calls Try.prog 39 #[.slice A0 l0.length c0] w fun e w' => ∃ v0_ : Value, e = .returned (v0_) ∧ Kd.R (Kd.int .i64) 3 w' w.heap.size (fun _ => True) v0_ r ∧ Below w.heap.size w w' := by
 unfold slices_Clone_int_int.f at h
 by_cases hl : l0.length ≤ 17592186044416
 ·rw [if_pos hl] at h
  obtain rfl := Option.some.inj h
  clear h
  have HR := sA hr0
  have HL := sA hl
  clear hr0 hc0 hl
  cases A0 with
  | none =>
   have h0 : l0 = [] := by
    by_cases hp : 0 < l0.length
    ·obtain ⟨ad, e, _⟩ := HR.out.2.2 hp
     cases e
    ·exact List.length_eq_zero_iff.1 (by omega)
   subst h0
   have HE := sA (Kd.R_nil (Kd.int .i64) 3 w w.heap.size (fun _ => True))
   have hq : ∀ W, Sem.run Try.prog (binOp .eql 23 (.slice none 0 c0) (.slice none 0 0)) W = .ok (.bool true) W := fun W => by
    simpa using Lib.run_eql_slice_nil W 23 3 none 0 c0 0 0 Try.underlying23
   go_enter Try.func39, Try.ntmps39
   go_wp2
   go_ret
   exact ⟨_, rfl, HE.out, Below.refl _ _⟩
  | some ad =>
   have hq : ∀ W, Sem.run Try.prog (binOp .eql 23 (.slice (some ad) l0.length c0) (.slice none 0 0)) W = .ok (.bool false) W := fun W => by
    simpa using Lib.run_eql_slice_nil W 23 3 (some ad) l0.length c0 0 0 Try.underlying23
   have HB := sA (Below.refl w.heap.size w)
   go_enter Try.func39, Try.ntmps39
   go_wp2_with (first | ((with_reducible refine gate_dst (N := 5) rfl ?_); refine Kd.R_lit (Kd.int .i64) _ 3 ?hg (N := 5) ?hd (xs := ([] : List Int)) (inner := []) (ok := fun _ => True) (okp := fun _ => True) ?hr ?hp (fun _ hk => hk) trivial (Below.refl _ _) (Nat.le_refl _) (by simp) ?_; (case hd => rfl); (case hg => rfl); (case hr => first | (go_simp; done) | (go_simp; rfl)); (case hp => exact (Reps.none _ _)); intro v1 w1 ho1 hb1 hg1_ hnew_; have HO1 := sA ho1; have HB1 := sA hb1; clear ho1 hb1 hg1_ hnew_) | ((with_reducible refine gate_dst (N := 7) rfl ?_); refine Kd.R_append_row (Value.int .i64) (0 : Int) (h1 := fun _ => rfl) (w0 := w) w.heap.size (by rfl) (.tmp 5) (.tmp 6) 23 3 (.int .i64 0) 8 rfl Try.underlying23 slices_Clone_int_int.infoE rfl (by decide) v1 [] l0 (some ad) l0.length c0 (fun _ => True) rfl rfl (fun _ _ => trivial) HO1.out (Kd.C_below HR.out HB1.out) HB1.out HB1.out.size (by have := HL.out; simp only [List.length_nil]; omega) ?_; intro v2 w2 ho2 hb2 hg2_ hat_; have HO2 := sA ho2; have HB2 := sA hb2; clear ho2 hb2 hg2_ hat_))
   go_ret
   exact ⟨_, rfl, HO2.out, HB2.out⟩
 ·rw [if_neg hl] at h
  cases h


end Go.Proofs.Ytligcknlmbgbiaa.P

namespace Go.Proofs.Ytligcknlmbgbiaa.P
open Go.RowKit Go.Proofs.YtligcknlmbgbiaaW.PrintWords Go.Proofs.YtligcknlmbgbiaaW.PrintLast Go.Proofs.YtligcknlmbgbiaaW.PrintMore
attribute [local go_sem] max2_int min2_int max_two min_two max_three min_three max_four min_four
set_option linter.unusedVariables false
set_option linter.unusedSimpArgs false

/-! ### impl_few: function 57 -/
def impl_few.f (l0 : List (S59)) : Option ((List (S59)) × Bool) := if (l0.length : Int) > 20 then (some (([] : List (S59)), false)) else (some (l0, true))
set_option maxHeartbeats 8000000 in
set_option maxRecDepth 100000 in
theorem impl_few.calls (P0_ : Nat → Prop) (u9000_ : Value) (l0 : List (S59)) (r1 : List (S59)) (r2 : Bool) (w0 w : World) (hB : Below w0.heap.size w0 w) (ho0 : Kd.R k59 59 w w0.heap.size P0_ u9000_ l0) (h : impl_few.f l0 = some (r1, r2)) :
  Calls Try.prog 57 #[u9000_] w fun e w' => ∃ v0_ : Value, e = .returned (.tuple #[v0_, .bool r2]) ∧ Kd.R k59 59 w' w0.heap.size (fun k_ => (P0_ k_ ∨ w.heap.size ≤ k_)) v0_ r1 ∧ Below w0.heap.size w0 w' ∧ Kept w w' (fun k_ => P0_ k_) := by
 have HO0 := sA (show Kd.R k59 59 w w0.heap.size (fun k_ => (P0_ k_ ∨ w.heap.size ≤ k_)) u9000_ l0 from Kd.R_mono ho0 (fun k_ hk => (.inl hk)))
 have HK := sA (Kept.refl w (fun k_ => P0_ k_))
 have HW0 := sA hB.size
 have HB := sA hB
 clear hB
 have H : (if (l0.length : Int) > 20 then (some (([] : List (S59)), false)) else (some (l0, true))) = some (r1, r2) := h
 clear h
 by_cases c2 : (l0.length : Int) > 20
 ·rw [if_pos c2] at H
  have c2b0 : decide (20 < (l0.length : Int)) = true := decide_eq_true c2
  have c2b1 : decide (20 < l0.length) = true := decide_eq_true (by omega)
  clear c2
  simp only [Option.some.injEq, Prod.mk.injEq] at H
  obtain ⟨rfl, rfl⟩ := H
  obtain ⟨Ao3, co3, eo3⟩ := Kd.R_slice HO0.out
  subst eo3
  go_enter Try.func57, Try.ntmps57
  go_wp2
  go_ret2
  exact ⟨_, by first | rfl | (simp [errW_none, errW_some] <;> rfl) | (simp [*, errW_none, errW_some] <;> rfl), by first | exact Kd.R_nil _ _ _ _ _ | exact Kd.N_nil _ _ _ _ _ | exact Kd.V_nil _ _ _ _ _ | exact Kd.Q_nil _ _ _ _ _ | exact Kd.S_nil _ _ _ _ _, by repeat (first | (with_reducible first | exact HB.out | apply sLA | apply sLN | apply sLD) | exact HB.out), by repeat (first | (with_reducible first | exact HK.out | apply Kept.alloc | apply Kept.drewN | apply Kept.drew) | exact HK.out)⟩
 ·rw [if_neg c2] at H
  have c2b0 : decide (20 < (l0.length : Int)) = false := decide_eq_false c2
  have c2b1 : decide (20 < l0.length) = false := decide_eq_false (by omega)
  clear c2
  simp only [Option.some.injEq, Prod.mk.injEq] at H
  obtain ⟨rfl, rfl⟩ := H
  obtain ⟨Ao4, co4, eo4⟩ := Kd.R_slice HO0.out
  subst eo4
  go_enter Try.func57, Try.ntmps57
  go_wp2
  go_ret2
  exact ⟨_, by first | rfl | (simp [errW_none, errW_some] <;> rfl) | (simp [*, errW_none, errW_some] <;> rfl), by (with_reducible repeat (first | apply Kd.R_alloc | apply Kd.R_drewN | apply Kd.R_drew)); exact HO0.out, by repeat (first | (with_reducible first | exact HB.out | apply sLA | apply sLN | apply sLD) | exact HB.out), by repeat (first | (with_reducible first | exact HK.out | apply Kept.alloc | apply Kept.drewN | apply Kept.drew) | exact HK.out)⟩

end Go.Proofs.Ytligcknlmbgbiaa.P

namespace Go.Proofs.Ytligcknlmbgbiaa.P
open Go.RowKit Go.Proofs.YtligcknlmbgbiaaW.PrintWords Go.Proofs.YtligcknlmbgbiaaW.PrintLast Go.Proofs.YtligcknlmbgbiaaW.PrintMore
attribute [local go_sem] max2_int min2_int max_two min_two max_three min_three max_four min_four
set_option linter.unusedVariables false
set_option linter.unusedSimpArgs false

/-! ### impl_Span_38: function 38 (by hand) -/
/-! ### impl_Span_38: function 55 -/
def impl_Span_38.f (l0 : List (S59)) : Option ((List (S59))) := (some (([] : List (S59)) : List (S59))).bind fun y101 => (if y101.length + l0.length < 8796093022208 then (some (y101 ++ l0)) else (none))
set_option maxHeartbeats 8000000 in
set_option maxRecDepth 100000 in
theorem impl_Span_38.calls_some (ad : Addr) (c0 : Nat) (l0 : List (S59)) (r : List (S59)) (w : World) (hr0 : Kd.C k59 w (some ad) l0.length l0) (hc0 : l0.length ≤ c0) (h : impl_Span_38.f l0 = some r) :
  Calls Try.prog 38 #[.slice (some ad) l0.length c0] w fun e w' => ∃ v0_ : Value, e = .returned (v0_) ∧ Kd.R k59 59 w' w.heap.size (fun _ => True) v0_ r ∧ Below w.heap.size w w' := by
 have HR0 := sA hr0
 have HC0 := sA hc0
 clear hr0 hc0
 have HB := sA (Below.refl w.heap.size w)
 have H : ((some (([] : List (S59)) : List (S59))).bind fun y101 => (if y101.length + l0.length < 8796093022208 then (some (y101 ++ l0)) else (none))) = some r := h
 clear h
 obtain ⟨y101, hy101⟩ : ∃ y_ : List (S59), y_ = (([] : List (S59))) := ⟨_, rfl⟩
 replace H : (if y101.length + l0.length < 8796093022208 then (some (y101 ++ l0)) else (none)) = some r := by first | (rw [hy101]; with_reducible exact H) | (have H2_ := (Option.bind_some _ _).symm.trans H; rw [hy101]; with_reducible exact H2_) | (have H2_ := (Option.bind_some _ _).symm.trans H; with_reducible exact H2_) | with_reducible exact H | (rw [hy101]; exact H) | exact H
 have Ny101 := sA hy101
 clear hy101
 by_cases c2 : y101.length + l0.length < 8796093022208
 ·rw [if_pos c2] at H
  have LMc2 := sA c2
  clear c2
  obtain ⟨y104, hy104⟩ : ∃ y_ : List (S59), y_ = (y101 ++ l0) := ⟨_, rfl⟩
  replace H : (some y104) = some r := by first | (rw [hy104]; with_reducible exact H) | (have H2_ := (Option.bind_some _ _).symm.trans H; rw [hy104]; with_reducible exact H2_) | (have H2_ := (Option.bind_some _ _).symm.trans H; with_reducible exact H2_) | with_reducible exact H | (rw [hy104]; exact H) | exact H
  have Ny104 := sA hy104
  clear hy104
  obtain rfl := Option.some.inj H
  have hq : ∀ W, Sem.run Try.prog (binOp .eql 29 (.slice (some ad) l0.length c0) (.slice none 0 0)) W = .ok (.bool false) W := fun W => by
   simpa using Lib.run_eql_slice_nil W 29 59 (some ad) l0.length c0 0 0 Try.underlying29
  go_enter Try.func38, Try.ntmps38
  go_wp2_with (first | ((with_reducible refine gate_dst (N := 5) rfl ?_); refine Kd.R_lit k59 _ 59 ?hg (N := 5) ?hd (xs := ([] : List (S59))) (inner := []) (ok := fun _ => True) (okp := fun _ => True) ?hr ?hp (fun _ hk => hk) trivial (Below.refl _ _) (Nat.le_refl _) (by simp) ?_; (case hd => rfl); (case hg => rfl); (case hr => first | (go_simp; done) | (go_simp; rfl)); (case hp => exact (Reps.none _ _)); intro v102 w3 ho4 hb hg_ hnew_; clear hg_ hnew_; (first | rw [← Ny101.out] at ho4 | (simp only [Int.reduceToNat] at ho4; rw [← Ny101.out] at ho4)); have HO103 := sA (Kd.R_lower ho4 (below_size sH)); replace HB := sA (below_step sH hb); clear hb ho4) | ((with_reducible refine gate_builtin (b := .append) (xs := #[.tmp 5, .tmp 6]) rfl ?_); at_builtin; refine Kd.R_append_rows k59 (w0 := w) w.heap.size rfl (.tmp 5) (.tmp 6) 29 59 (.agg #[(.int .i64 0), (.int .i64 0)]) 16 rfl Try.underlying29 info59 rfl (by decide) (by omega) v102 y101 l0 _ _ _ (fun _ => True) (fun _ => False) rfl rfl ?aO ?aR (fun _ _ h => h) (fun _ h => h.elim) ?aF ?aB ?aS ?aL ?_; (case aR => exact sK (Kd.C_below HR0.out HB.out)); (case aB => exact sH); (case aF => exact (fun _ _ => trivial)); (case aO => exact (sR HO103.out)); (case aS => exact (below_size sH)); (case aL => have := LMc2.out; omega); intro v105 w5 ho hb hg hat; rw [← Ny104.out] at ho; replace HB := sA (hb); have HO106 := sA (ho); clear HO103; clear ho hb hg hat))
  go_ret
  exact ⟨_, by first | rfl | (simp [errW_none, errW_some] <;> rfl) | (simp [*, errW_none, errW_some] <;> rfl), by (with_reducible repeat (first | apply Kd.R_alloc | apply Kd.R_drewN | apply Kd.R_drew)); exact HO106.out, by repeat (first | (with_reducible first | exact HB.out | apply sLA | apply sLN | apply sLD) | exact HB.out)⟩
 ·rw [if_neg c2] at H
  exact absurd H (by simp)
set_option maxHeartbeats 8000000 in
theorem impl_Span_38.calls (A0 : Option Addr) (c0 : Nat) (l0 : List S59) (r : List S59) (w : World) (hr0 : Kd.C k59 w A0 l0.length l0) (hc0 : l0.length ≤ c0) (h : impl_Span_38.f l0 = some r) :
  Calls Try.prog 38 #[.slice A0 l0.length c0] w fun e w' => ∃ v0_ : Value, e = .returned (v0_) ∧ Kd.R k59 59 w' w.heap.size (fun _ => True) v0_ r ∧ Below w.heap.size w w' := by
 cases A0 with
 | some ad => exact impl_Span_38.calls_some ad c0 l0 r w hr0 hc0 h
 | none =>
  have h0 : l0 = [] := by
   by_cases hp : 0 < l0.length
   ·obtain ⟨ad, e, _⟩ := hr0.2.2 hp
    cases e
   ·exact List.length_eq_zero_iff.1 (by omega)
  subst h0
  have hr : r = [] := by
   have h' : (if ([] : List S59).length + ([] : List S59).length < 8796093022208 then some (([] : List S59) ++ []) else none) = some r := h
   rw [if_pos (by simp)] at h'
   simpa using (Option.some.inj h').symm
  subst hr
  clear hr0 hc0 h
  have HE := sA (Kd.R_nil k59 59 w w.heap.size (fun _ => True))
  have hq : ∀ W, Sem.run Try.prog (binOp .eql 29 (.slice none 0 c0) (.slice none 0 0)) W = .ok (.bool true) W := fun W => by
   simpa using Lib.run_eql_slice_nil W 29 59 none 0 c0 0 0 Try.underlying29
  go_enter Try.func38, Try.ntmps38
  go_wp2
  go_ret
  exact ⟨_, rfl, HE.out, Below.refl _ _⟩


end Go.Proofs.Ytligcknlmbgbiaa.P

namespace Go.Proofs.Ytligcknlmbgbiaa.P
open Go.RowKit Go.Proofs.YtligcknlmbgbiaaW.PrintWords Go.Proofs.YtligcknlmbgbiaaW.PrintLast Go.Proofs.YtligcknlmbgbiaaW.PrintMore
attribute [local go_sem] max2_int min2_int max_two min_two max_three min_three max_four min_four
set_option linter.unusedVariables false
set_option linter.unusedSimpArgs false

open Go.Sort
section
variable {β : Type} [Inhabited β] (enc : β → Value)
theorem heap_put {w : World} {g n : Nat} {os : Array Obj} {cur : Array Value} {e : TypeId} {fr : Nat × Nat} (d : Array β) (hb : w.heap[g]? = some (.cells cur e fr)) :
    (grow (putRow enc (Sort.ahead w n) g 0 d) os).heap[g]? = some (.cells (putCells enc 0 d cur) e fr) := by
  have hg : g < w.heap.size := (Array.getElem?_eq_some_iff.1 hb).1
  rw [heap_grow_old _ _ (by simpa using hg)]
  simp [putRow, mapBlock, Sort.ahead, Array.getElem?_modify, hb, onCells]
theorem grownBy_put {w : World} {g n : Nat} {os : Array Obj} (d : Array β) : w.grownBy (grow (putRow enc (Sort.ahead w n) g 0 d) os) (some g) := by
  refine ⟨rfl, rfl, rfl, by simp, fun k hk hne => ?_⟩
  rw [heap_grow_old _ _ (by simpa using hk)]
  have : g ≠ k := fun e => hne (by rw [e])
  simp [putRow, mapBlock, Sort.ahead, Array.getElem?_modify, this]
theorem take_put (cur : Array Value) (ts : Array β) (h : ts.size ≤ cur.size) : (putCells enc 0 ts cur).toList.take ts.size = ts.toList.map enc := by
  apply List.ext_getElem?
  intro j
  by_cases hj : j < ts.size
  · rw [List.getElem?_take_of_lt hj, Array.getElem?_toList]
    simp [putCells, hj, show j < cur.size by omega]
  · rw [List.getElem?_take_eq_none (by omega), List.getElem?_eq_none (by simp; omega)]
theorem holds_put {w : World} {g : Nat} {cur : Array Value} {e : TypeId} {d : Array β} (hb : w.heap[g]? = some (.cells cur e (0, 0))) (ht : cur.toList.take d.size = d.toList.map enc) : Holds enc w g 0 d := by
  intro j hj
  refine ⟨?_, by simp [World.frozen?, hb]⟩
  have h1 : (cur.toList.take d.size)[j]? = (d.toList.map enc)[j]? := by rw [ht]
  rw [List.getElem?_take_of_lt hj] at h1
  simp only [World.cell?, hb, Nat.zero_add]
  simp only [Option.isSome_none, Bool.false_eq_true, if_false]
  rw [← Array.getElem?_toList, h1]
  simp [hj]
end
section
variable {α : Type} {d : Kd α} {e : Nat} {w w0 : World} {base : Nat} {ok : Nat → Prop} {v : Value} {xs : List α}
/-- A row of the call's own: none, or a block's first cells. -/
theorem R_parts (h : d.R e w base ok v xs) : (v = .slice none 0 0 ∧ xs = []) ∨ ∃ (g cap : Nat) (cur : Array Value) (inner : List Value), v = .slice (some ⟨g, 0, none⟩) xs.length cap ∧ ok g ∧ base ≤ g ∧ w.heap[g]? = some (.cells cur e (0, 0)) ∧ xs.length ≤ cap ∧ cap ≤ maxLen ∧ cur.size = cap * d.sz ∧ cur.toList.take (xs.length * d.sz) = inner ∧ Reps (d.M w base (fun k => ok k ∧ some k ≠ v.ownBlock)) d.sz xs inner := by
  obtain ⟨h0, inner, ⟨hl, ho⟩, hr⟩ := h
  rcases ho with ⟨rfl, hz⟩ | ⟨g, cap, cur, rfl, hg, hh, h1, h2, h3, h4⟩
  · exact .inl ⟨rfl, List.length_eq_zero_iff.1 hz⟩
  · exact .inr ⟨g, cap, cur, inner, rfl, h0 g (by simp [Value.ownBlock]), hg, hh, h1, h2, h3, h4, hr⟩
/-- .. and behind new cells in place of the old ones: the same row, of as many elements. -/
theorem R_put {β : Type} [Inhabited β] (enc : β → Value) {g cap n : Nat} {cur : Array Value} {os : Array Obj} {ys : List α} (ts : Array β) (hok : ok g) (hg : base ≤ g) (hh : w.heap[g]? = some (.cells cur e (0, 0))) (h1 : ys.length ≤ cap) (h2 : cap ≤ maxLen) (h3 : cur.size = cap * d.sz) (hs : ts.size = ys.length * d.sz)
    (hr : Reps (d.M (grow (putRow enc (Sort.ahead w n) g 0 ts) os) base (fun k => ok k ∧ some k ≠ some g)) d.sz ys (ts.toList.map enc)) : d.R e (grow (putRow enc (Sort.ahead w n) g 0 ts) os) base ok (.slice (some ⟨g, 0, none⟩) ys.length cap) ys := by
  have hle : ts.size ≤ cur.size := by rw [hs, h3]; exact Nat.mul_le_mul_right _ h1
  refine ⟨fun k hk => by have e1 : g = k := by simpa [Value.ownBlock] using hk
                         exact e1 ▸ hok, ts.toList.map enc, ⟨by simp [hs], .inr ⟨g, cap, _, rfl, hg, heap_put enc _ hh, h1, h2, by simp [putCells, h3], by rw [← hs]; exact take_put enc cur ts hle⟩⟩, ?_⟩
  simpa [Value.ownBlock] using hr
theorem kept_put {β : Type} [Inhabited β] (enc : β → Value) {g n : Nat} {os : Array Obj} (ts : Array β) {S : Nat → Prop} (hg : S g) : Kept w (grow (putRow enc (Sort.ahead w n) g 0 ts) os) S :=
  Kept.of_grown (grownBy_put enc ts) (Kept.refl w S) (fun k hk => .inl (by cases hk; exact hg))
theorem below_put {β : Type} [Inhabited β] (enc : β → Value) {g n : Nat} {os : Array Obj} (ts : Array β) (hB : Below w0.heap.size w0 w) (hg : w0.heap.size ≤ g) : Below w0.heap.size w0 (grow (putRow enc (Sort.ahead w n) g 0 ts) os) :=
  pw_below_grown hB (some g) hB.size (grownBy_put enc ts) (fun k hk => by cases hk; exact hg)
end

end Go.Proofs.Ytligcknlmbgbiaa.P

namespace Go.Proofs.Ytligcknlmbgbiaa.P
open Go.RowKit Go.Proofs.YtligcknlmbgbiaaW.PrintWords Go.Proofs.YtligcknlmbgbiaaW.PrintLast Go.Proofs.YtligcknlmbgbiaaW.PrintMore
attribute [local go_sem] max2_int min2_int max_two min_two max_three min_three max_four min_four
set_option linter.unusedVariables false
set_option linter.unusedSimpArgs false

/-! ### impl_Span_76: function 76 (by hand) -/
open Go.Shelf Go.Sort
def impl_Span_76.lay_ren : Go.Shelf.Ren := ⟨fun | 6 => 76 | 15 => 73 | 14 => 94 | 28 => 92 | 29 => 93 | 20 => 101 | 21 => 102 | 22 => 103 | 23 => 104 | 24 => 105 | 25 => 106 | 26 => 107 | 27 => 108 | 46 => 110 | 47 => 96 | 48 => 97 | 49 => 111 | 50 => 112 | 57 => 113 | n => n, fun | 22 => 29 | 24 => 59 | 25 => 87 | 3 => 3 | 39 => 84 | 0 => 0 | 53 => 101 | 55 => 103 | 4 => 4 | 46 => 93 | 45 => 92 | 50 => 98 | 5 => 5 | 9 => 9 | 66 => 105 | 70 => 109 | 76 => 116 | 77 => 117 | n => n, fun | n => n⟩
theorem impl_Span_76.lay : SlLaysF0.n6 Try.prog impl_Span_76.lay_ren := {
  mixed := by kernel_rfl
  f6 := ⟨Try.f76.name, by decide, Try.func76.trans (congrArg some (by kernel_rfl))⟩
  f14 := ⟨Try.f94.name, by decide, Try.func94.trans (congrArg some (by kernel_rfl))⟩
  f15 := Try.func73.trans (congrArg some (by kernel_rfl))
  f20 := ⟨Try.f101.name, by decide, Try.func101.trans (congrArg some (by kernel_rfl))⟩
  f21 := ⟨Try.f102.name, by decide, Try.func102.trans (congrArg some (by kernel_rfl))⟩
  f22 := ⟨Try.f103.name, by decide, Try.func103.trans (congrArg some (by kernel_rfl))⟩
  f23 := ⟨Try.f104.name, by decide, Try.func104.trans (congrArg some (by kernel_rfl))⟩
  f24 := ⟨Try.f105.name, by decide, Try.func105.trans (congrArg some (by kernel_rfl))⟩
  f25 := ⟨Try.f106.name, by decide, Try.func106.trans (congrArg some (by kernel_rfl))⟩
  f26 := ⟨Try.f107.name, by decide, Try.func107.trans (congrArg some (by kernel_rfl))⟩
  f27 := ⟨Try.f108.name, by decide, Try.func108.trans (congrArg some (by kernel_rfl))⟩
  f28 := Try.func92.trans (congrArg some (by kernel_rfl))
  f29 := Try.func93.trans (congrArg some (by kernel_rfl))
  f46 := ⟨Try.f110.name, by decide, Try.func110.trans (congrArg some (by kernel_rfl))⟩
  f47 := Try.func96.trans (congrArg some (by kernel_rfl))
  f48 := Try.func97.trans (congrArg some (by kernel_rfl))
  f49 := ⟨Try.f111.name, by decide, Try.func111.trans (congrArg some (by kernel_rfl))⟩
  f50 := ⟨Try.f112.name, by decide, Try.func112.trans (congrArg some (by kernel_rfl))⟩
  f57 := ⟨Try.f113.name, by decide, Try.func113.trans (congrArg some (by kernel_rfl))⟩
  t0 := Try.underlying0
  a0 := Try.isAgg0
  z0 := Try.sizeOf0
  v0 := Try.zeroValue0
  t3 := Try.underlying3
  a3 := Try.isAgg3
  z3 := Try.sizeOf3
  v3 := Try.zeroValue3
  t4 := Try.underlying4
  a4 := Try.isAgg4
  z4 := Try.sizeOf4
  v4 := Try.zeroValue4
  t5 := Try.underlying5
  a5 := Try.isAgg5
  z5 := Try.sizeOf5
  v5 := Try.zeroValue5
  t9 := Try.underlying9
  a9 := Try.isAgg9
  z9 := Try.sizeOf9
  v9 := Try.zeroValue9
  t22 := Try.underlying29
  a22 := Try.isAgg29
  z22 := Try.sizeOf29
  v22 := Try.zeroValue29
  t25 := Try.underlying87
  a25 := Try.isAgg87
  z25 := Try.sizeOf87
  v25 := Try.zeroValue87
  t39 := Try.underlying84
  a39 := Try.isAgg84
  z39 := Try.sizeOf84
  v39 := Try.zeroValue84
  t45 := Try.underlying92
  a45 := Try.isAgg92
  z45 := Try.sizeOf92
  v45 := Try.zeroValue92
  t46 := Try.underlying93
  a46 := Try.isAgg93
  z46 := Try.sizeOf93
  v46 := Try.zeroValue93
  t50 := Try.underlying98
  a50 := Try.isAgg98
  z50 := Try.sizeOf98
  v50 := Try.zeroValue98
  t53 := Try.underlying101
  a53 := Try.isAgg101
  z53 := Try.sizeOf101
  v53 := Try.zeroValue101
  t55 := Try.underlying103
  a55 := Try.isAgg103
  z55 := Try.sizeOf103
  v55 := Try.zeroValue103
  t66 := Try.underlying105
  a66 := Try.isAgg105
  z66 := Try.sizeOf105
  v66 := Try.zeroValue105
  t70 := Try.underlying109
  a70 := Try.isAgg109
  z70 := Try.sizeOf109
  v70 := Try.zeroValue109
  t76 := Try.underlying116
  a76 := Try.isAgg116
  z76 := Try.sizeOf116
  v76 := Try.zeroValue116
  t77 := Try.underlying117
  a77 := Try.isAgg117
  z77 := Try.sizeOf117
  v77 := Try.zeroValue117 }


/-- Spans whose beginnings do not overflow when they are compared. -/
def okVS (x : S59) : Bool := decide (0 ≤ x.f0) && decide (x.f0 ≤ 4611686018427387903)
structure VS where
  v : S59
  h : okVS v = true
instance instVS : Inhabited VS := ⟨⟨⟨0, 0⟩, rfl⟩⟩
def encVS (x : VS) : List Value := [.int .i64 x.1.f0, .int .i64 x.1.f1]
def cfVS (x y : VS) : Int := x.1.f0 - y.1.f0
def toVS (x : S59) : VS := if h : okVS x = true then ⟨x, h⟩ else default
theorem toVS_val (x : S59) (h : okVS x = true) : (toVS x).1 = x := by unfold toVS; rw [dif_pos h]
theorem swoVS : SWO (ltOf cfVS) := ⟨fun x => by simp [ltOf, cfVS], fun x y z a b => by
    have a := of_decide_eq_true a
    have b := of_decide_eq_true b
    exact decide_eq_true (by unfold cfVS at *; omega), fun x y z a b => by
    have a := of_decide_eq_false a
    have b := of_decide_eq_false b
    exact decide_eq_false (by unfold cfVS at *; omega)⟩
/-- slices.SortFunc at spans, by From: what Go's sort leaves in the row. -/
def impl_Span_76.f (l : List S59) : Option (List S59) :=
  if l.length < 4611686018427387904 then (if l.all okVS = true then some ((pdq (ltOf cfVS) (l.map toVS).toArray 0 l.length (Lib.bitLen l.length) true true).toList.map (·.1)) else none) else none
/-- .. what is needed of it: the same spans, none ahead of one that begins before it. -/
theorem impl_Span_76.spec (l r : List S59) (h : impl_Span_76.f l = some r) : r.Perm l ∧ r.Pairwise (fun a b => a.f0 ≤ b.f0) := by
  unfold impl_Span_76.f at h
  split at h
  · split at h
    · rename_i _ hv
      have hd : (l.map toVS).toArray.size = l.length := by simp
      have hs := pdq_sorts (ltOf cfVS) swoVS (l.map toVS).toArray 0 l.length (Lib.bitLen l.length) true true (Nat.zero_le _) (by omega) (Or.inl rfl)
      obtain rfl := Option.some.inj h
      generalize hE : pdq (ltOf cfVS) (l.map toVS).toArray 0 l.length (Lib.bitLen l.length) true true = E at hs ⊢
      obtain ⟨⟨h1, _, h3⟩, h2⟩ := hs
      rw [hd] at h1
      rw [show E.extract 0 l.length = E by rw [← h1]; simp, show (l.map toVS).toArray.extract 0 l.length = (l.map toVS).toArray by rw [← hd]; simp only [Array.extract_size]] at h3
      refine ⟨?_, ?_⟩
      · have h4 := h3.map (fun x : VS => x.1)
        have e : (l.map toVS).map (fun x : VS => x.1) = l := by
          rw [List.map_map]
          conv => rhs; rw [← List.map_id l]
          refine List.map_congr_left fun x hx => ?_
          exact toVS_val x (List.all_eq_true.1 hv x hx)
        simpa only [List.toList_toArray, e] using h4
      · rw [List.pairwise_iff_getElem]
        intro i j hi hj hij
        simp only [List.length_map, Array.length_toList] at hi hj
        have := h2 i j (Nat.zero_le _) hij (by omega)
        rw [getElem!_pos E i hi, getElem!_pos E j hj] at this
        have := of_decide_eq_false this
        simp only [List.getElem_map, Array.getElem_toList]
        unfold cfVS at this
        omega
    · cases h
  · cases h
theorem impl_Span_76.flat (l : List VS) (t : Nat) (ht : t < l.length * 2) : (flatK encVS 2 l.toArray)[t]? = (encVS (l[t / 2]'(by omega)))[t % 2]? := by
  have h1 : t / 2 < l.length := by omega
  have h2 : t % 2 < (encVS l[t / 2]).length := Nat.mod_lt _ (by decide)
  have h3 : t < l.toArray.size * 2 := by simpa using ht
  have h4 : t < (flatK encVS 2 l.toArray).size := by simpa using ht
  rw [List.getElem?_eq_getElem h2, Array.getElem?_eq_getElem h4]
  congr 1
  have e1 : l.toArray[t / 2]! = l[t / 2] := by simp [h1]
  have e2 : (encVS l[t / 2])[t % 2]! = (encVS l[t / 2])[t % 2] := getElem!_pos (encVS l[t / 2]) (t % 2) h2
  simp only [flatK, Array.getElem_map, Array.getElem_range, e1, e2]
theorem impl_Span_76.reps_to {w : World} {base : Nat} {ok : Nat → Prop} (l : List S59) (hv : l.all okVS = true) (inner : List Value) (h : Reps (k59.M w base ok) 2 l inner) : inner = (flatK encVS 2 (l.map toVS).toArray).toList := by
  apply List.ext_getElem?
  intro t
  have e0 : (flatK encVS 2 (l.map toVS).toArray).toList[t]? = (flatK encVS 2 (l.map toVS).toArray)[t]? := Array.getElem?_toList
  rw [e0]
  by_cases ht : t < l.length * 2
  · have hj : t / 2 < l.length := by omega
    have hp := k59_openM (h.2 (t / 2) l[t / 2] (List.getElem?_eq_getElem hj))
    rw [impl_Span_76.flat _ t (by simpa using ht), List.getElem_map]
    have e : encVS (toVS l[t / 2]) = (inner.drop (t / 2 * 2)).take 2 := by
      rw [hp]
      unfold encVS
      rw [toVS_val _ (List.all_eq_true.1 hv _ (List.getElem_mem hj))]
    rw [e, List.getElem?_take_of_lt (Nat.mod_lt _ (by decide)), List.getElem?_drop]
    congr 1
    omega
  · rw [List.getElem?_eq_none (by rw [h.1]; omega), Array.getElem?_eq_none (by simp; omega)]
theorem impl_Span_76.reps_of (w : World) (base : Nat) (ok : Nat → Prop) (d : Array VS) : Reps (k59.M w base ok) 2 (d.toList.map (·.1)) ((flatK encVS 2 d).toList.map id) := by
  refine ⟨by simp, fun j p hj => ?_⟩
  obtain ⟨hl, rfl⟩ := List.getElem?_eq_some_iff.1 hj
  have hl' : j < d.toList.length := by simpa using hl
  have e : (((flatK encVS 2 d).toList.map id).drop (j * 2)).take 2 = encVS d.toList[j] := by
    apply List.ext_getElem?
    intro t
    by_cases ht : t < 2
    · have := impl_Span_76.flat d.toList (j * 2 + t) (by omega)
      rw [Array.toArray_toList] at this
      rw [List.getElem?_take_of_lt ht, List.getElem?_drop, List.map_id, Array.getElem?_toList, this]
      have e1 : (j * 2 + t) / 2 = j := by omega
      have e2 : (j * 2 + t) % 2 = t := by omega
      simp only [e1, e2]
    · rw [List.getElem?_take_eq_none (by omega), List.getElem?_eq_none (show (encVS d.toList[j]).length ≤ t from by show 2 ≤ t; omega)]
  rw [e, List.getElem_map]
  exact k59_mkM w base ok _
theorem impl_Span_76.cmp (x y : VS) (W : World) : Calls Try.prog 77 (#[.agg (encVS x).toArray, .agg (encVS y).toArray] ++ #[]) W fun e w' => e = .returned (.int .i64 (cfVS x y)) ∧ ∃ q os', w' = grow (W.drewN q) os' := by
  obtain ⟨⟨a, b⟩, hx⟩ := x
  obtain ⟨⟨c, d⟩, hy⟩ := y
  have hx' : 0 ≤ a ∧ a ≤ 4611686018427387903 := by simpa [okVS] using hx
  have hy' : 0 ≤ c ∧ c ≤ 4611686018427387903 := by simpa [okVS] using hy
  have e1 : wrap64 (a - c) = a - c := by unfold wrap64; omega
  have HE := Aside0.mk e1
  show Calls Try.prog 77 #[.agg #[.int .i64 a, .int .i64 b], .agg #[.int .i64 c, .int .i64 d]] W fun e w' => e = .returned (.int .i64 (a - c)) ∧ ∃ q os', w' = grow (W.drewN q) os'
  clear hx hy hx' hy' e1
  go_enter Try.func77, Try.ntmps77
  go_wp2
  go_ret
  exact ⟨by show Ending.returned (.int .i64 (wrap64 (a - c))) = _; rw [HE.out], 0, #[.cells #[.int .i64 a, .int .i64 b] 59 (0, 0)] ++ #[.cells #[.int .i64 c, .int .i64 d] 59 (0, 0)], by rw [alloc_eq_grow, alloc_eq_grow, grow_grow]; rfl⟩
set_option maxHeartbeats 2000000 in
theorem impl_Span_76.calls (P0_ : Nat → Prop) (u9000_ : Value) (l0 : List S59) (r : List S59) (w0 w : World) (hB : Below w0.heap.size w0 w) (ho0 : Kd.R k59 59 w w0.heap.size P0_ u9000_ l0) (h : impl_Span_76.f l0 = some r) :
  Calls Try.prog 76 #[u9000_, .func (.func 77) #[] #[]] w fun e w' => e = .returned (.tuple #[]) ∧ Kd.R k59 59 w' w0.heap.size (fun k_ => (P0_ k_ ∨ w.heap.size ≤ k_)) u9000_ r ∧ Below w0.heap.size w0 w' ∧ Kept w w' (fun k_ => P0_ k_) := by
 unfold impl_Span_76.f at h
 by_cases hl : l0.length < 4611686018427387904
 ·rw [if_pos hl] at h
  by_cases hv : l0.all okVS = true
  ·rw [if_pos hv] at h
   obtain rfl := Option.some.inj h
   rcases R_parts ho0 with ⟨rfl, rfl⟩ | ⟨g, cap, cur, inner, rfl, hok, hg, hh, h1, h2, h3, h4, hr⟩
   ·refine (AnyF.slices_SortFunc_none impl_Span_76.lay none 0 _ w).mono ?_
    rintro e w' ⟨rfl, rfl⟩
    have hn := (impl_Span_76.spec [] _ (show impl_Span_76.f [] = some _ from by unfold impl_Span_76.f; rw [if_pos (by decide), if_pos (by rfl)])).1
    rw [List.perm_nil.1 hn]
    exact ⟨rfl, Kd.R_nil _ _ _ _ _, hB, Kept.refl _ _⟩
   ·have hz : k59.sz = 2 := rfl
    have hsz : (flatK encVS 2 (l0.map toVS).toArray).size = l0.length * 2 := by simp
    have hi := impl_Span_76.reps_to l0 hv inner (by rw [← hz]; exact hr)
    rw [hz] at h3 h4
    rw [hi] at h4
    have hlen : (pdq (ltOf cfVS) (l0.map toVS).toArray 0 l0.length (Lib.bitLen l0.length) true true).size = l0.length := by
     have := (pdq_sorts (ltOf cfVS) swoVS (l0.map toVS).toArray 0 l0.length (Lib.bitLen l0.length) true true (Nat.zero_le _) (by simp) (Or.inl rfl)).1.1
     simpa using this
    have hd : (l0.map toVS).toArray.size = l0.length := by simp
    have hH : HoldsK encVS 2 w g 0 (l0.map toVS).toArray := holds_put id hh (by rw [hsz, List.map_id]; exact h4)
    have hcall := AnyQ.slices_SortFunc_eq impl_Span_76.lay 2 (fun w => by first | exact Try.isAgg59 w | exact Try.isAgg59) (fun w => by first | exact Try.sizeOf59 w | exact Try.sizeOf59) encVS (fun _ => rfl) (fun x v hv => by
     simp only [encVS, List.mem_cons, List.not_mem_nil, or_false] at hv
     rcases hv with rfl | rfl <;> rfl) cfVS swoVS 77 #[] g 0 cap (l0.map toVS).toArray w (Go.Proofs.enters_of Try.func77 (by kernel_rfl) rfl) (fun m os dk _ x y => impl_Span_76.cmp x y _) hH (blk_lt hh) (by rw [hd]; exact hl)
    rw [hd] at hcall
    refine hcall.mono ?_
    rintro e w' ⟨rfl, n, os, rfl⟩
    generalize pdq (ltOf cfVS) (l0.map toVS).toArray 0 l0.length (Lib.bitLen l0.length) true true = E at hlen ⊢
    have hlen2 : (E.toList.map (fun x : VS => x.1)).length = l0.length := by simpa using hlen
    refine ⟨rfl, ?_, below_put id _ hB hg, kept_put id _ hok⟩
    rw [← hlen2]
    exact R_put id (flatK encVS 2 E) (.inl hok) hg hh (by rw [hlen2]; exact h1) h2 h3 (by rw [size_flatK, hlen2, hlen]; rfl) (impl_Span_76.reps_of _ _ _ E)
  ·rw [if_neg hv] at h
   cases h
 ·rw [if_neg hl] at h
  cases h


end Go.Proofs.Ytligcknlmbgbiaa.P

namespace Go.Proofs.Ytligcknlmbgbiaa.P
open Go.RowKit Go.Proofs.YtligcknlmbgbiaaW.PrintWords Go.Proofs.YtligcknlmbgbiaaW.PrintLast Go.Proofs.YtligcknlmbgbiaaW.PrintMore
attribute [local go_sem] max2_int min2_int max_two min_two max_three min_three max_four min_four
set_option linter.unusedVariables false
set_option linter.unusedSimpArgs false

/-! ### impl_joined: function 58 -/
def impl_joined.l0 : Nat → List (S59) → List (S59) → Int → Int → Option ((List (S59)))
  | 0, _, _, _, _ => none
  | k + 1, x4, x13, x14, x15 => if x15 < x14 then (if 0 ≤ x15 then (if x15 < (x13.length : Int) then (if (wrap64 ((x4.length : Int) - 1)) ≥ 0 then (if 0 ≤ (wrap64 ((x4.length : Int) - 1)) then (if (wrap64 ((x4.length : Int) - 1)) < (x4.length : Int) then (if ((rd_T59 x13 x15).f0) ≤ ((rd_T59 x4 (wrap64 ((x4.length : Int) - 1))).f1) then (impl_joined.l0 k (x4.set ((wrap64 ((x4.length : Int) - 1)) : Int).toNat (⟨(rd_T59 x4 (wrap64 ((x4.length : Int) - 1))).f0, mx ((rd_T59 x4 (wrap64 ((x4.length : Int) - 1))).f1) ((rd_T59 x13 x15).f1)⟩ : S59)) x13 x14 (wrap64 (x15 + 1))) else (if x4.length < 8796093022208 then (impl_joined.l0 k (x4 ++ [(⟨(rd_T59 x13 x15).f0, (rd_T59 x13 x15).f1⟩ : S59)]) x13 x14 (wrap64 (x15 + 1))) else (none))) else (none)) else (none)) else (if x4.length < 8796093022208 then (impl_joined.l0 k (x4 ++ [(⟨(rd_T59 x13 x15).f0, (rd_T59 x13 x15).f1⟩ : S59)]) x13 x14 (wrap64 (x15 + 1))) else (none))) else (none)) else (none)) else (some x4)
def impl_joined.f (k : Nat) (l0 : List (S59)) : Option ((List (S59))) := (impl_Span_38.f l0).bind fun t101 => ((impl_Span_76.f t101).bind fun t107 => (impl_joined.l0 k (([] : List (S59))) t107 (t101.length : Int) 0))
def impl_joined.T7 : Bool × List (List Nat × List Nat) := (true, [([], []), ([0], [0]), ([1], [1]), ([2], [2]), ([3, 2], [2, 3]), ([2], [2]), ([2], [2]), ([5, 6, 2], [2, 5, 6]), ([7, 2], [2, 7]), ([8, 2], [2, 8]), ([4, 9, 2], [2, 4, 9]), ([2, 10], [2, 10])])
def impl_joined.B7 : List Nat := [0, 1, 3, 7, 15, 7, 7, 103, 231, 487, 1023, 2047]
theorem impl_joined.tab7 : rtab .any (opsOf Try.f58 7) = impl_joined.T7 := by kernel_rfl
theorem impl_joined.bits7 : waitsOk impl_joined.T7.2 impl_joined.B7 = true := by kernel_rfl
def impl_joined.T8 : Bool × List (List Nat × List Nat) := (true, [([], []), ([], []), ([], []), ([], []), ([2, 3], [2, 3]), ([4], [4]), ([5], [5]), ([], []), ([7], [7]), ([6, 8], [6, 8]), ([0, 1, 0, 1, 2, 3, 4, 5, 6, 7, 8, 9], [0, 1]), ([10, 0, 1, 2, 3, 4, 5, 6, 7, 8, 9], [10]), ([11, 9, 0, 1, 2, 3, 4, 5, 6, 7, 8, 9], [9, 11])])
def impl_joined.B8 : List Nat := [0, 0, 0, 0, 12, 28, 60, 0, 128, 508, 1023, 2047, 4095]
theorem impl_joined.tab8 : rtab .any (opsOf Try.f58 8) = impl_joined.T8 := by kernel_rfl
theorem impl_joined.bits8 : waitsOk impl_joined.T8.2 impl_joined.B8 = true := by kernel_rfl
set_option maxHeartbeats 8000000 in
set_option maxRecDepth 100000 in
theorem impl_joined.calls (k : Nat) (A0 : Option Addr) (c0 : Nat) (l0 : List (S59)) (r : List (S59)) (w : World) (hr0 : Kd.C k59 w A0 l0.length l0) (hc0 : l0.length ≤ c0) (h : impl_joined.f k l0 = some r) :
  Calls Try.prog 58 #[.slice A0 l0.length c0] w fun e w' => ∃ v0_ : Value, e = .returned (v0_) ∧ Kd.R k59 59 w' w.heap.size (fun _ => True) v0_ r ∧ Below w.heap.size w w' := by
 have hu59 := Try.underlying59
 have HR0 := sA hr0
 have HC0 := sA hc0
 clear hr0 hc0
 have HB := sA (Below.refl w.heap.size w)
 have H : ((impl_Span_38.f l0).bind fun t101 => ((impl_Span_76.f t101).bind fun t107 => (impl_joined.l0 k (([] : List (S59))) t107 (t101.length : Int) 0))) = some r := h
 clear h
 obtain ⟨t101, A2, H⟩ := sN H
 obtain ⟨y104, hy104⟩ : ∃ y_ : List (S59), y_ = (([] : List (S59))) := ⟨_, rfl⟩
 replace H : ((impl_Span_76.f t101).bind fun t107 => (impl_joined.l0 k y104 t107 (t101.length : Int) 0)) = some r := by first | (rw [hy104]; with_reducible exact H) | (have H2_ := (Option.bind_some _ _).symm.trans H; rw [hy104]; with_reducible exact H2_) | (have H2_ := (Option.bind_some _ _).symm.trans H; with_reducible exact H2_) | with_reducible exact H | (rw [hy104]; exact H) | exact H
 have Ny104 := sA hy104
 clear hy104
 obtain ⟨t107, A3, H⟩ := sN H
 have H' := sA H
 clear H
 go_enter Try.func58, Try.ntmps58
 go_wp2_with (first | ((with_reducible refine gate_callee (f := 38) rfl ?_); refine goesL_ (some 9) rfl rfl Try.func38 (by kernel_rfl) rfl #[.slice A0 l0.length c0] rfl sG ?_; (with_reducible refine (impl_Span_38.calls _ _ l0 t101 _ ?side1 ?side2 A2.out).mono ?_); (case side1 => repeat (first | exact HR0.out | (with_reducible refine Kd.C_alloc ?_ _) | (with_reducible refine Kd.C_drewN ?_ _) | (with_reducible refine Kd.C_drew ?_))); (case side2 => exact HC0.out); rintro e w4 ⟨v102, rfl, ho0, hb⟩; refine ⟨_, rfl, ?_⟩; have HO103 := sA (Kd.R_lower ho0 (below_size sH)); replace HB := sA (below_step sH hb); (try clear hb); (try clear hb2); (try clear hk); (try clear hi); (try clear ho0)) | ((with_reducible refine gate_dst (N := 10) rfl ?_); refine Kd.R_lit k59 _ 59 ?hg (N := 10) ?hd (xs := ([] : List (S59))) (inner := []) (ok := fun _ => True) (okp := fun _ => True) ?hr ?hp (fun _ hk => hk) trivial (Below.refl _ _) (Nat.le_refl _) (by simp) ?_; (case hd => rfl); (case hg => rfl); (case hr => first | (go_simp; done) | (go_simp; rfl)); (case hp => exact (Reps.none _ _)); intro v105 w5 ho6 hb hg_ hnew_; clear hg_ hnew_; (first | rw [← Ny104.out] at ho6 | (simp only [Int.reduceToNat] at ho6; rw [← Ny104.out] at ho6)); have HO106 := sA (Kd.R_lower (Kd.R_new' ho6 (Kd.R_lt (sR HO103.out))) (below_size sH)); replace HO103 := sA (Kd.R_elder' (sR HO103.out) (Kd.R_base ho6) hb); replace HB := sA (below_step sH hb); clear hb ho6; obtain ⟨Ao7, co7, eo7⟩ := Kd.R_slice HO103.out; subst eo7) | ((with_reducible refine gate_callee (f := 76) rfl ?_); refine goesL_ (some 12) rfl rfl Try.func76 (by kernel_rfl) rfl #[.slice Ao7 t101.length co7, .func (.func 77) #[] #[]] rfl sG ?_; (with_reducible refine (impl_Span_76.calls (fun k_ => some k_ = (.slice Ao7 t101.length co7 : Value).ownBlock) (.slice Ao7 t101.length co7) t101 t107 w _ ?side1 ?side2 A3.out).mono ?_); (case side1 => repeat (first | (with_reducible first | exact HB.out | apply sLA | apply sLN | apply sLD) | exact HB.out)); (case side2 => exact Kd.R_tight rfl HO103.out); rintro e w8 ⟨rfl, hy0, hb, hkp⟩; refine ⟨_, rfl, ?_⟩; replace HO103 := sA (Kd.R_reok rfl hy0 (fun k_ e_ => HO103.out.1 k_ e_)); replace HO106 := sA (Kd.R_mono (ok' := fun k_ => some k_ ≠ (.slice Ao7 t101.length co7 : Value).ownBlock) (Kd.R_keptB (HO106.out) hkp (fun k_ hk_ hs_ => (hk_.2) hs_)) (fun k_ hk_ => hk_.1.2)); replace HB := sA (hb); (try clear hb); (try clear hkp); (try clear hy0)))
 go_loopg [4, 15] k (fun kq v4 v15 w' => ∃ (x4_1 : List (S59)) (x13_1 : List (S59)) (x15_1 : Int), v15 = .int .i64 x15_1 ∧ Aside0 (impl_joined.l0 kq x4_1 x13_1 (t101.length : Int) x15_1 = some r) ∧ Aside0 (kq ≤ k) ∧ Aside0 (Kd.R k59 59 w' w.heap.size (fun k_ => some k_ ≠ ((.slice Ao7 t101.length co7) : Value).ownBlock) v4 x4_1) ∧ Aside0 (Kd.R k59 59 w' w.heap.size (fun k_ => some k_ ≠ (v4 : Value).ownBlock) (.slice Ao7 t101.length co7) x13_1) ∧ Aside0 (Below w.heap.size w w'))
 case atStart => exact ⟨(y104), (t107), (0), (by first | rfl | (simp; done) | (simp [*]; done)), H', ⟨Nat.le_refl _⟩, ⟨sR HO106.out⟩, ⟨sR (Kd.R_mono HO103.out (fun _ hk => hk.2))⟩, ⟨sH⟩⟩
 case round =>
  clear H'
  (try clear p2); (try clear c3); (try clear c5); (try clear c7)
  obtain ⟨x4_1, x13_1, x15_1, rfl, HA, HK1, HO_4, HO_13, HB⟩ := hrel
  have hl13_1 := (Kd.R_reads' HO_13.out).1
  rw [hl13_1] at HO_13
  (try simp only [hl13_1])
  (try simp only [hl13_1] at HO_4)
  cases gk with
  | zero => exact absurd HA.out (by simp [impl_joined.l0])
  | succ k1 =>
   have H := HA.out
   clear HA
   simp only [impl_joined.l0] at H
   by_cases c9 : x15_1 < (t101.length : Int)
   ·rw [if_pos c9] at H
    have c9b0 : decide (x15_1 < (t101.length : Int)) = true := decide_eq_true c9
    (try have c9d13_1 : decide (x15_1 < (x13_1.length : Int)) = true := by rw [← hl13_1]; exact c9b0)
    clear c9
    by_cases c10 : 0 ≤ x15_1
    ·rw [if_pos c10] at H
     have c10b0 : decide (0 ≤ x15_1) = true := decide_eq_true c10
     clear c10
     by_cases c11 : x15_1 < (x13_1.length : Int)
     ·rw [if_pos c11] at H
      have c11b0 : decide (x15_1 < (x13_1.length : Int)) = true := decide_eq_true c11
      clear c11
      by_cases c12 : (wrap64 ((x4_1.length : Int) - 1)) ≥ 0
      ·rw [if_pos c12] at H
       have c12b0 : decide (0 ≤ (wrap64 ((x4_1.length : Int) - 1))) = true := decide_eq_true c12
       clear c12
       obtain ⟨ji13, hji13⟩ : ∃ j_ : Int, (wrap64 ((x4_1.length : Int) - 1)) = j_ := ⟨_, rfl⟩
       replace H : (if 0 ≤ (ji13) then (if (ji13) < (x4_1.length : Int) then (if ((rd_T59 x13_1 x15_1).f0) ≤ ((rd_T59 x4_1 (ji13)).f1) then (impl_joined.l0 k1 (x4_1.set ((ji13) : Int).toNat (⟨(rd_T59 x4_1 (ji13)).f0, mx ((rd_T59 x4_1 (ji13)).f1) ((rd_T59 x13_1 x15_1).f1)⟩ : S59)) x13_1 (t101.length : Int) (wrap64 (x15_1 + 1))) else (if x4_1.length < 8796093022208 then (impl_joined.l0 k1 (x4_1 ++ [(⟨(rd_T59 x13_1 x15_1).f0, (rd_T59 x13_1 x15_1).f1⟩ : S59)]) x13_1 (t101.length : Int) (wrap64 (x15_1 + 1))) else (none))) else (none)) else (none)) = some r := by first | (rw [hji13] at H; exact H) | (simp only [hji13] at H ⊢; exact H)
       (try rw [hji13] at c12b0)
       have hji13w : (IntKind.i64.wrap ((x4_1.length : Int) - 1)) = ji13 := (i64_w _).trans hji13
       by_cases c14 : 0 ≤ (ji13)
       ·rw [if_pos c14] at H
        have c14b0 : decide (0 ≤ (ji13)) = true := decide_eq_true c14
        clear c14
        by_cases c15 : (ji13) < (x4_1.length : Int)
        ·rw [if_pos c15] at H
         have c15b0 : decide ((ji13) < (x4_1.length : Int)) = true := decide_eq_true c15
         (try have c15d13_1 : decide ((ji13) < (x13_1.length : Int)) = true := by rw [← hl13_1]; exact c15b0)
         clear c15
         by_cases c16 : ((rd_T59 x13_1 x15_1).f0) ≤ ((rd_T59 x4_1 (ji13)).f1)
         ·rw [if_pos c16] at H
          have c16b0 : decide (((rd_T59 x13_1 x15_1).f0) ≤ ((rd_T59 x4_1 (ji13)).f1)) = true := decide_eq_true c16
          clear c16
          obtain ⟨ji17, hji17⟩ : ∃ j_ : Int, (mx ((rd_T59 x4_1 (ji13)).f1) ((rd_T59 x13_1 x15_1).f1)) = j_ := ⟨_, rfl⟩
          replace H : (impl_joined.l0 k1 (x4_1.set ((ji13) : Int).toNat (⟨(rd_T59 x4_1 (ji13)).f0, ji17⟩ : S59)) x13_1 (t101.length : Int) (wrap64 (x15_1 + 1))) = some r := by first | (rw [hji17] at H; exact H) | (simp only [hji17] at H ⊢; exact H)
          have hji17_ : (if ((rd_T59 x4_1 (ji13)).f1) < ((rd_T59 x13_1 x15_1).f1) then ((rd_T59 x13_1 x15_1).f1) else ((rd_T59 x4_1 (ji13)).f1)) = ji17 := hji17
          obtain ⟨y112, hy112⟩ : ∃ y_ : List (S59), y_ = (x4_1.set ((ji13) : Int).toNat (⟨(rd_T59 x4_1 (ji13)).f0, ji17⟩ : S59)) := ⟨_, rfl⟩
          replace H : (impl_joined.l0 k1 y112 x13_1 (t101.length : Int) (wrap64 (x15_1 + 1))) = some r := by first | (rw [hy112]; with_reducible exact H) | (have H2_ := (Option.bind_some _ _).symm.trans H; rw [hy112]; with_reducible exact H2_) | (have H2_ := (Option.bind_some _ _).symm.trans H; with_reducible exact H2_) | with_reducible exact H | (rw [hy112]; exact H) | exact H
          have Ny112 := sA hy112
          clear hy112
          have H' := sA H
          clear H
          have p108 : 0 ≤ (x15_1 : Int) := of_decide_eq_true (by first | (with_reducible assumption) | assumption)
          have q108 : x15_1 < (x13_1.length : Int) := of_decide_eq_true (by first | (with_reducible assumption) | assumption)
          obtain ⟨ad108, e108, hx108_0, hx108_1⟩ := at_T59 (Kd.R_reads' HO_13.out).2.2 x15_1 p108 q108
          cases e108
          replace p108 := eq_true p108
          replace q108 := eq_true q108
          try go_wp2_with (first | ((with_reducible refine gate_dst (N := 6) rfl ?_); refine box_event ?hg (N := 6) ?hd (cs := #[.int .i64 0, .int .i64 0]) (t := 59) ?hr ?_; (case hd => rfl); (case hg => rfl); (case hr => first | (go_simp; done) | (go_simp; rfl)); intro gb109 hg w19 hbox hb; replace HO_4 := sA (Kd.R_below (Kd.R_elderB (sR HO_4.out) gb109 (Nat.le_of_eq hg.symm)) hb); replace HO_13 := sA (Kd.R_below (Kd.R_elderB (sR HO_13.out) gb109 (Nat.le_of_eq hg.symm)) hb); have BK109 := sA (hbox); have GW109 := sA ((by rw [hg]; exact (below_size sH) : w.heap.size ≤ gb109)); have GE109 := sA ((by rw [hg]; exact (below_size sH) : w.heap.size ≤ gb109)); replace HB := sA (below_step sH hb); clear hb hbox hg; obtain ⟨_, _, _, _⟩ := sD2 BK109; obtain ⟨Ao21, co21, eo21⟩ := Kd.R_slice HO_4.out; subst eo21))
          have n0_ : Aside0 (Kd.R k59 59 ((w19.setCell ⟨gb109, 0, none⟩ (.int .i64 ((rd_T59 x13_1 x15_1).f0))).setCell ⟨gb109, 1, none⟩ (.int .i64 ((rd_T59 x13_1 x15_1).f1))) w.heap.size (fun k_ => some k_ ≠ (.slice (some ad108) x13_1.length co7 : Value).ownBlock ∧ k_ ≠ gb109) (.slice Ao21 x4_1.length co21) x4_1) := ⟨sR (Kd.R_mono (Kd.R_far (p := ⟨gb109, 1, none⟩) (Kd.R_far (p := ⟨gb109, 0, none⟩) (Kd.R_mono HO_4.out (fun k_ hk => (⟨hk, hk.2⟩ : _ ∧ k_ ≠ gb109))) (fun _ hk => hk.2) (.int .i64 ((rd_T59 x13_1 x15_1).f0))) (fun _ hk => hk.2) (.int .i64 ((rd_T59 x13_1 x15_1).f1))) (fun _ hk => ⟨hk.1.1, hk.1.2⟩))⟩
          have n1_ : Aside0 (Kd.R k59 59 ((w19.setCell ⟨gb109, 0, none⟩ (.int .i64 ((rd_T59 x13_1 x15_1).f0))).setCell ⟨gb109, 1, none⟩ (.int .i64 ((rd_T59 x13_1 x15_1).f1))) w.heap.size (fun k_ => some k_ ≠ (.slice Ao21 x4_1.length co21 : Value).ownBlock ∧ k_ ≠ gb109) (.slice (some ad108) x13_1.length co7) x13_1) := ⟨sR (Kd.R_mono (Kd.R_far (p := ⟨gb109, 1, none⟩) (Kd.R_far (p := ⟨gb109, 0, none⟩) (Kd.R_mono HO_13.out (fun k_ hk => (⟨hk, hk.2⟩ : _ ∧ k_ ≠ gb109))) (fun _ hk => hk.2) (.int .i64 ((rd_T59 x13_1 x15_1).f0))) (fun _ hk => hk.2) (.int .i64 ((rd_T59 x13_1 x15_1).f1))) (fun _ hk => ⟨hk.1.1, hk.1.2⟩))⟩
          have n2_ : Aside0 (((w19.setCell ⟨gb109, 0, none⟩ (.int .i64 ((rd_T59 x13_1 x15_1).f0))).setCell ⟨gb109, 1, none⟩ (.int .i64 ((rd_T59 x13_1 x15_1).f1))).heap[gb109]? = some (.cells #[.int .i64 ((rd_T59 x13_1 x15_1).f0), .int .i64 ((rd_T59 x13_1 x15_1).f1)] 59 (0, 0))) := ⟨by (with_reducible repeat first | apply blk_drewN | apply blk_drew | apply blk_alloc); refine blk_put (cs := #[.int .i64 ((rd_T59 x13_1 x15_1).f0), .int .i64 0]) ?_ 1 _ rfl; (with_reducible repeat first | apply blk_drewN | apply blk_drew | apply blk_alloc); refine blk_put (cs := #[.int .i64 0, .int .i64 0]) ?_ 0 _ rfl; (with_reducible repeat first | apply blk_drewN | apply blk_drew | apply blk_alloc); exact BK109.out⟩
          have n3_ : Aside0 (Below w.heap.size w ((w19.setCell ⟨gb109, 0, none⟩ (.int .i64 ((rd_T59 x13_1 x15_1).f0))).setCell ⟨gb109, 1, none⟩ (.int .i64 ((rd_T59 x13_1 x15_1).f1)))) := ⟨sH⟩
          (try clear HO_4)
          (try clear HO_13)
          (try clear BK109)
          (try clear HB)
          generalize ((w19.setCell ⟨gb109, 0, none⟩ (.int .i64 ((rd_T59 x13_1 x15_1).f0))).setCell ⟨gb109, 1, none⟩ (.int .i64 ((rd_T59 x13_1 x15_1).f1))) = w22 at n0_ n1_ n2_ n3_ ⊢
          have HO_4 := n0_
          have HO_13 := n1_
          have BK109 := n2_
          have HB := n3_
          clear n0_ n1_ n2_ n3_
          replace HO_4 := sA (Kd.R_drew HO_4.out)
          replace HO_13 := sA (Kd.R_drew HO_13.out)
          replace BK109 := sA (blk_drew BK109.out)
          replace HB := sA (below_drew1 HB.out)
          have p110 : 0 ≤ ((ji13) : Int) := of_decide_eq_true (by first | (with_reducible assumption) | assumption)
          have q110 : (ji13) < (x4_1.length : Int) := of_decide_eq_true (by first | (with_reducible assumption) | assumption)
          obtain ⟨ad110, e110, hx110_0, hx110_1⟩ := at_T59 (Kd.R_reads' HO_4.out).2.2 (ji13) p110 q110
          cases e110
          replace p110 := eq_true p110
          replace q110 := eq_true q110
          refine start_ (n := 12) (S := fun w' => w'.cell? ⟨gb109, 0, none⟩ = some (.int .i64 ((rd_T59 x13_1 x15_1).f0)) ∧ w'.cell? ⟨gb109, 1, none⟩ = some (.int .i64 ((rd_T59 x13_1 x15_1).f1)) ∧ w'.cell? (ad110.add (((ji13)).toNat * 2)) = some (.int .i64 ((rd_T59 x4_1 (ji13)).f0)) ∧ w'.cell? ⟨(ad110.add (((ji13)).toNat * 2)).block, (ad110.add (((ji13)).toNat * 2)).off + 1, none⟩ = some (.int .i64 ((rd_T59 x4_1 (ji13)).f1))) (ds := []) (sM 12 0) (by kernel_rfl) rfl rfl ⟨sC BK109 0 rfl, sC BK109 1 rfl, hx110_0, hx110_1⟩ (fun hHeld => ?_); refine with_tabW impl_joined.tab7 impl_joined.bits7 (fun HT_ HW_ => ?_)
          generalize w22.drew = w23 at HO_4 HO_13 BK109 HB hx110_0 hx110_1 hHeld ⊢
          refine sP (v := ?_) (a' := ?_) 0 22 (sM 12 1) HT_ ?_ ?_ ?_; rotate_left 2
          ·intro w'; go_simp; with_reducible rfl
          ·simp only [Act.put, sI, sZ, sV, i64_w, i32_w]; rfl
          refine sP (v := ?_) (a' := ?_) 1 23 (sM 12 3) HT_ ?_ ?_ ?_; rotate_left 2
          ·intro w'; go_simp; with_reducible rfl
          ·simp only [Act.put, sI, sZ, sV, i64_w, i32_w]; rfl
          refine sP (v := ?_) (a' := ?_) 2 24 (sM 12 7) HT_ ?_ ?_ ?_; rotate_left 2
          ·intro w'; go_simp; with_reducible rfl
          ·simp only [Act.put, sI, sZ, sV, i64_w, i32_w]; rfl
          refine sP (v := ?_) (a' := ?_) 3 25 (sM 12 15) HT_ ?_ ?_ ?_; rotate_left 2
          ·intro w'; go_simp; with_reducible rfl
          ·simp only [Act.put, sI, sZ, sV, i64_w, i32_w]; rfl
          refine sP (v := ?_) (a' := ?_) 5 27 (sM 12 47) HT_ ?_ ?_ ?_; rotate_left 2
          ·intro w'; go_simp; with_reducible rfl
          ·simp only [Act.put, sI, sZ, sV, i64_w, i32_w]; rfl
          refine sP (v := ?_) (a' := ?_) 6 28 (sM 12 111) HT_ ?_ ?_ ?_; rotate_left 2
          ·intro w'; go_simp; with_reducible rfl
          ·simp only [Act.put, sI, sZ, sV, i64_w, i32_w]; rfl
          refine sP (v := ?_) (a' := ?_) 7 29 (sM 12 239) HT_ ?_ ?_ ?_; rotate_left 2
          ·intro w'; go_simp; with_reducible rfl
          ·simp only [Act.put, sI, sZ, sV, i64_w, i32_w]; rfl
          refine sP (v := ?_) (a' := ?_) 8 30 (sM 12 495) HT_ ?_ ?_ ?_; rotate_left 2
          ·intro w'; go_simp; with_reducible rfl
          ·simp only [Act.put, sI, sZ, sV, i64_w, i32_w]; rfl
          refine sT (v := ?_) (a' := ?_) 4 26 (sM 12 511) HT_ HW_ hHeld ?_ ?_ ?_; rotate_left 2
          ·rintro w' ⟨s0, s1, s2, s3⟩; go_simp; with_reducible rfl
          ·simp only [Act.put, sI, sZ, sV, i64_w, i32_w]; rfl
          refine sT (v := ?_) (a' := ?_) 9 31 (sM 12 1023) HT_ HW_ hHeld ?_ ?_ ?_; rotate_left 2
          ·rintro w' ⟨s0, s1, s2, s3⟩; go_simp; with_reducible rfl
          ·simp only [Act.put, sI, sZ, sV, i64_w, i32_w]; rfl
          refine sP (v := ?_) (a' := ?_) 10 32 (sM 12 2047) HT_ ?_ ?_ ?_; rotate_left 2
          ·intro w'; go_simp; with_reducible rfl
          ·simp only [Act.put, sI, sZ, sV, i64_w, i32_w]; rfl
          refine sP (v := ?_) (a' := ?_) 11 33 (sM 12 4095) HT_ ?_ ?_ ?_; rotate_left 2
          ·intro w'; go_simp; with_reducible rfl
          ·simp only [Act.put, sI, sZ, sV, i64_w, i32_w]; rfl
          refine done_ (done_of HT_.out (by kernel_rfl)) ?_
          try go_wp2
          replace HO_4 := sA (Kd.R_drew HO_4.out)
          replace HO_13 := sA (Kd.R_drew HO_13.out)
          replace BK109 := sA (blk_drew BK109.out)
          replace HB := sA (below_drew1 HB.out)
          have p111 : 0 ≤ ((ji13) : Int) := of_decide_eq_true (by first | (with_reducible assumption) | assumption)
          have q111 : (ji13) < (x4_1.length : Int) := of_decide_eq_true (by first | (with_reducible assumption) | assumption)
          obtain ⟨ad111, e111, hx111_0, hx111_1⟩ := at_T59 (Kd.R_reads' HO_4.out).2.2 (ji13) p111 q111
          obtain rfl : ad110 = ad111 := (by injection e111)
          replace p111 := eq_true p111
          replace q111 := eq_true q111
          have p18 : 0 ≤ ((ji13) : Int) := of_decide_eq_true (by first | (with_reducible assumption) | assumption)
          have q18 : ((ji13) : Int) < ((x4_1.length : Int) : Int) := of_decide_eq_true (by first | (with_reducible assumption) | assumption)
          obtain ⟨go18, co18, eo18, gb18, gl18, cl18, HG18⟩ := Kd.R_form HO_4.out (by omega)
          (first | cases eo18 | (injection eo18 with ea_ en_ ec_; (first | subst ea_ | (injection ea_ with ea_; subst ea_)); subst ec_; clear en_))
          have GB18 := sA gb18
          have GG18 := sA HG18
          clear gb18 gl18 HG18
          (first | simp only [add_plain] at hx110_0 | skip)
          (first | simp only [add_plain] at hx110_1 | skip)
          (first | simp only [add_plain] at hx111_0 | skip)
          (first | simp only [add_plain] at hx111_1 | skip)
          obtain ⟨ce18, hcl18, hM18, hcc18, hfr18⟩ := Kd.R_elem HO_4.out z59 ((ji13) : Int) p18 q18
          obtain rfl := k59_openM hM18
          have hx18_0 : World.cell? _ ⟨go18, ((ji13) : Int).toNat * 2, none⟩ = some (.int .i64 ((rd_T59 x4_1 (ji13)).f0)) := hcc18 0 _ rfl
          have hx18_1 : World.cell? _ ⟨go18, ((ji13) : Int).toNat * 2 + 1, none⟩ = some (.int .i64 ((rd_T59 x4_1 (ji13)).f1)) := hcc18 1 _ rfl
          have hf18_0 : World.frozen? _ ⟨go18, ((ji13) : Int).toNat * 2, none⟩ = false := hfr18 0
          have hf18_1 : World.frozen? _ ⟨go18, ((ji13) : Int).toNat * 2 + 1, none⟩ = false := hfr18 1
          clear hcl18 hcc18 hfr18 hM18
          replace p18 := eq_true p18
          replace q18 := eq_true q18
          obtain ⟨ce25, hcl25, hM25, hcc25, hfr25⟩ := Kd.R_elem HO_4.out z59 ((ji13) : Int) (of_decide_eq_true (by first | (with_reducible assumption) | assumption)) (by have h_ : ((ji13) : Int) < ((x4_1.length : Int) : Int) := of_decide_eq_true (by first | (with_reducible assumption) | assumption); first | exact h_ | (have e_ := (Kd.R_reads' HO_4.out).1; omega) | simpa using h_)
          obtain rfl := k59_openM hM25
          have HP25 := (Kd.R_seg HO_4.out ((ji13) : Int) (of_decide_eq_true (by first | (with_reducible assumption) | assumption)) (by have h_ : ((ji13) : Int) < ((x4_1.length : Int) : Int) := of_decide_eq_true (by first | (with_reducible assumption) | assumption); first | exact h_ | (have e_ := (Kd.R_reads' HO_4.out).1; omega) | simpa using h_) (seg := [.int .i64 ji17]) (j := 1) hcl25 hcc25 (show 2 ≤ 2 from by decide) (x' := (⟨(rd_T59 x4_1 (ji13)).f0, ji17⟩ : S59)) (k59_mkM _ _ _ (⟨(rd_T59 x4_1 (ji13)).f0, ji17⟩ : S59) ) (fun _ hk => hk)).1
          rw [← Ny112.out] at HP25
          have HQ25 := sA HP25
          clear hcl25 hcc25 hfr25 hM25 HP25
          refine start_ (n := 13) (S := fun w' => w'.cell? ⟨gb109, 0, none⟩ = some (.int .i64 ((rd_T59 x13_1 x15_1).f0)) ∧ w'.cell? ⟨gb109, 1, none⟩ = some (.int .i64 ((rd_T59 x13_1 x15_1).f1)) ∧ w'.cell? ⟨go18, (ji13 : Int).toNat * 2, none⟩ = some (.int .i64 ((rd_T59 x4_1 (ji13)).f0)) ∧ w'.cell? ⟨go18, (ji13 : Int).toNat * 2 + 1, none⟩ = some (.int .i64 ((rd_T59 x4_1 (ji13)).f1))) (ds := [12]) (sM 13 0) (by kernel_rfl) rfl rfl ⟨sC BK109 0 rfl, sC BK109 1 rfl, hx111_0, hx111_1⟩ (fun hHeld => ?_); refine with_tabW impl_joined.tab8 impl_joined.bits8 (fun HT_ HW_ => ?_)
          generalize w23.drew = w24 at HO_4 HO_13 BK109 HB GG18 HQ25 hf18_0 hf18_1 hx110_0 hx110_1 hx111_0 hx111_1 hx18_0 hx18_1 hHeld ⊢
          refine sP (v := ?_) (a' := ?_) 0 34 (sM 13 1) HT_ ?_ ?_ ?_; rotate_left 2
          ·intro w'; go_simp; with_reducible rfl
          ·simp only [Act.put, sI, sZ, sV, i64_w, i32_w]; rfl
          refine sP (v := ?_) (a' := ?_) 1 35 (sM 13 3) HT_ ?_ ?_ ?_; rotate_left 2
          ·intro w'; go_simp; with_reducible rfl
          ·simp only [Act.put, sI, sZ, sV, i64_w, i32_w]; rfl
          refine sP (v := ?_) (a' := ?_) 2 36 (sM 13 7) HT_ ?_ ?_ ?_; rotate_left 2
          ·intro w'; go_simp; with_reducible rfl
          ·simp only [Act.put, sI, sZ, sV, i64_w, i32_w]; rfl
          refine sP (v := ?_) (a' := ?_) 3 37 (sM 13 15) HT_ ?_ ?_ ?_; rotate_left 2
          ·intro w'; go_simp; with_reducible rfl
          ·simp only [Act.put, sI, sZ, sV, i64_w, i32_w]; rfl
          refine sP (v := ?_) (a' := ?_) 4 38 (sM 13 31) HT_ ?_ ?_ ?_; rotate_left 2
          ·intro w'; go_simp; with_reducible rfl
          ·simp only [Act.put, sI, sZ, sV, i64_w, i32_w]; rfl
          refine sP (v := ?_) (a' := ?_) 5 39 (sM 13 63) HT_ ?_ ?_ ?_; rotate_left 2
          ·intro w'; go_simp; with_reducible rfl
          ·simp only [Act.put, sI, sZ, sV, i64_w, i32_w]; rfl
          refine sP (v := ?_) (a' := ?_) 7 41 (sM 13 191) HT_ ?_ ?_ ?_; rotate_left 2
          ·intro w'; go_simp; with_reducible rfl
          ·simp only [Act.put, sI, sZ, sV, i64_w, i32_w]; rfl
          refine sT (v := ?_) (a' := ?_) 6 40 (sM 13 255) HT_ HW_ hHeld ?_ ?_ ?_; rotate_left 2
          ·rintro w' ⟨s0, s1, s2, s3⟩; go_simp; with_reducible rfl
          ·simp only [Act.put, sI, sZ, sV, i64_w, i32_w]; rfl
          refine sT (v := ?_) (a' := ?_) 8 42 (sM 13 511) HT_ HW_ hHeld ?_ ?_ ?_; rotate_left 2
          ·rintro w' ⟨s0, s1, s2, s3⟩; go_simp; with_reducible rfl
          ·simp only [Act.put, sI, sZ, sV, i64_w, i32_w]; rfl
          refine sP (v := ?_) (a' := ?_) 9 43 (sM 13 1023) HT_ ?_ ?_ ?_; rotate_left 2
          ·intro w'; go_simp; with_reducible rfl
          ·simp only [Act.put, sI, sZ, sV, i64_w, i32_w]; rfl
          refine sP (v := ?_) (a' := ?_) 10 44 (sM 13 2047) HT_ ?_ ?_ ?_; rotate_left 2
          ·intro w'; go_simp; with_reducible rfl
          ·simp only [Act.put, sI, sZ, sV, i64_w, i32_w]; rfl
          refine sP (v := ?_) (a' := ?_) 11 45 (sM 13 4095) HT_ ?_ ?_ ?_; rotate_left 2
          ·intro w'; go_simp; with_reducible rfl
          ·simp only [Act.put, sI, sZ, sV, i64_w, i32_w]; rfl
          refine last_ (i := 12) (N := none) (sM 13 8191) rfl rfl (one_of HT_.out (by kernel_rfl)) (by decide) (fun K hK => ?_)
          refine skip_ (w1 := ?_) (by rfl) rfl ?_ ?_
          rotate_left
          ·go_simp
           rfl
          refine hK.out _ _ ?_
          clear hK K
          refine done_ (done_of HT_.out (by kernel_rfl)) ?_
          try go_wp2
          (try simp only [← hl13_1])
          go_roundg k1
          case measure => have := HK1.out; omega
          case rel => exact ⟨(y112), (x13_1), (wrap64 (x15_1 + 1)), (by first | rfl | (simp; done) | (simp [*]; done)), H', ⟨by have := HK1.out; omega⟩, ⟨by (try simp only [hl13_1]); (with_reducible repeat (first | apply Kd.R_alloc | apply Kd.R_drewN | apply Kd.R_drew)); exact Kd.R_mono HQ25.out (fun _ hk => hk.1)⟩, ⟨by (try simp only [hl13_1]); (with_reducible repeat (first | apply Kd.R_alloc | apply Kd.R_drewN | apply Kd.R_drew)); exact Kd.R_mono (Kd.R_far (p := ⟨go18, ((ji13) : Int).toNat * 2 + 1, none⟩) (Kd.R_mono HO_13.out (fun k_ hk => (⟨hk, fun e_ => hk.1 (by rw [e_]; rfl)⟩ : _ ∧ k_ ≠ go18))) (fun _ hk => hk.2) (.int .i64 ji17)) (fun _ hk => hk.1.1)⟩, ⟨sH⟩⟩
         ·rw [if_neg c16] at H
          have c16b0 : decide (((rd_T59 x13_1 x15_1).f0) ≤ ((rd_T59 x4_1 (ji13)).f1)) = false := decide_eq_false c16
          clear c16
          by_cases c26 : x4_1.length < 8796093022208
          ·rw [if_pos c26] at H
           have LMc26 := sA c26
           clear c26
           obtain ⟨y113, hy113⟩ : ∃ y_ : List (S59), y_ = (x4_1 ++ [(⟨(rd_T59 x13_1 x15_1).f0, (rd_T59 x13_1 x15_1).f1⟩ : S59)]) := ⟨_, rfl⟩
           replace H : (impl_joined.l0 k1 y113 x13_1 (t101.length : Int) (wrap64 (x15_1 + 1))) = some r := by first | (rw [hy113]; with_reducible exact H) | (have H2_ := (Option.bind_some _ _).symm.trans H; rw [hy113]; with_reducible exact H2_) | (have H2_ := (Option.bind_some _ _).symm.trans H; with_reducible exact H2_) | with_reducible exact H | (rw [hy113]; exact H) | exact H
           have Ny113 := sA hy113
           clear hy113
           have H' := sA H
           clear H
           have p108 : 0 ≤ (x15_1 : Int) := of_decide_eq_true (by first | (with_reducible assumption) | assumption)
           have q108 : x15_1 < (x13_1.length : Int) := of_decide_eq_true (by first | (with_reducible assumption) | assumption)
           obtain ⟨ad108, e108, hx108_0, hx108_1⟩ := at_T59 (Kd.R_reads' HO_13.out).2.2 x15_1 p108 q108
           cases e108
           replace p108 := eq_true p108
           replace q108 := eq_true q108
           try go_wp2_with (first | ((with_reducible refine gate_dst (N := 6) rfl ?_); refine box_event ?hg (N := 6) ?hd (cs := #[.int .i64 0, .int .i64 0]) (t := 59) ?hr ?_; (case hd => rfl); (case hg => rfl); (case hr => first | (go_simp; done) | (go_simp; rfl)); intro gb109 hg w27 hbox hb; replace HO_4 := sA (Kd.R_below (Kd.R_elderB (sR HO_4.out) gb109 (Nat.le_of_eq hg.symm)) hb); replace HO_13 := sA (Kd.R_below (Kd.R_elderB (sR HO_13.out) gb109 (Nat.le_of_eq hg.symm)) hb); have BK109 := sA (hbox); have GW109 := sA ((by rw [hg]; exact (below_size sH) : w.heap.size ≤ gb109)); have GE109 := sA ((by rw [hg]; exact (below_size sH) : w.heap.size ≤ gb109)); replace HB := sA (below_step sH hb); clear hb hbox hg; obtain ⟨_, _, _, _⟩ := sD2 BK109; obtain ⟨Ao29, co29, eo29⟩ := Kd.R_slice HO_4.out; subst eo29))
           have n0_ : Aside0 (Kd.R k59 59 ((w27.setCell ⟨gb109, 0, none⟩ (.int .i64 ((rd_T59 x13_1 x15_1).f0))).setCell ⟨gb109, 1, none⟩ (.int .i64 ((rd_T59 x13_1 x15_1).f1))) w.heap.size (fun k_ => some k_ ≠ (.slice (some ad108) x13_1.length co7 : Value).ownBlock ∧ k_ ≠ gb109) (.slice Ao29 x4_1.length co29) x4_1) := ⟨sR (Kd.R_mono (Kd.R_far (p := ⟨gb109, 1, none⟩) (Kd.R_far (p := ⟨gb109, 0, none⟩) (Kd.R_mono HO_4.out (fun k_ hk => (⟨hk, hk.2⟩ : _ ∧ k_ ≠ gb109))) (fun _ hk => hk.2) (.int .i64 ((rd_T59 x13_1 x15_1).f0))) (fun _ hk => hk.2) (.int .i64 ((rd_T59 x13_1 x15_1).f1))) (fun _ hk => ⟨hk.1.1, hk.1.2⟩))⟩
           have n1_ : Aside0 (Kd.R k59 59 ((w27.setCell ⟨gb109, 0, none⟩ (.int .i64 ((rd_T59 x13_1 x15_1).f0))).setCell ⟨gb109, 1, none⟩ (.int .i64 ((rd_T59 x13_1 x15_1).f1))) w.heap.size (fun k_ => some k_ ≠ (.slice Ao29 x4_1.length co29 : Value).ownBlock ∧ k_ ≠ gb109) (.slice (some ad108) x13_1.length co7) x13_1) := ⟨sR (Kd.R_mono (Kd.R_far (p := ⟨gb109, 1, none⟩) (Kd.R_far (p := ⟨gb109, 0, none⟩) (Kd.R_mono HO_13.out (fun k_ hk => (⟨hk, hk.2⟩ : _ ∧ k_ ≠ gb109))) (fun _ hk => hk.2) (.int .i64 ((rd_T59 x13_1 x15_1).f0))) (fun _ hk => hk.2) (.int .i64 ((rd_T59 x13_1 x15_1).f1))) (fun _ hk => ⟨hk.1.1, hk.1.2⟩))⟩
           have n2_ : Aside0 (((w27.setCell ⟨gb109, 0, none⟩ (.int .i64 ((rd_T59 x13_1 x15_1).f0))).setCell ⟨gb109, 1, none⟩ (.int .i64 ((rd_T59 x13_1 x15_1).f1))).heap[gb109]? = some (.cells #[.int .i64 ((rd_T59 x13_1 x15_1).f0), .int .i64 ((rd_T59 x13_1 x15_1).f1)] 59 (0, 0))) := ⟨by (with_reducible repeat first | apply blk_drewN | apply blk_drew | apply blk_alloc); refine blk_put (cs := #[.int .i64 ((rd_T59 x13_1 x15_1).f0), .int .i64 0]) ?_ 1 _ rfl; (with_reducible repeat first | apply blk_drewN | apply blk_drew | apply blk_alloc); refine blk_put (cs := #[.int .i64 0, .int .i64 0]) ?_ 0 _ rfl; (with_reducible repeat first | apply blk_drewN | apply blk_drew | apply blk_alloc); exact BK109.out⟩
           have n3_ : Aside0 (Below w.heap.size w ((w27.setCell ⟨gb109, 0, none⟩ (.int .i64 ((rd_T59 x13_1 x15_1).f0))).setCell ⟨gb109, 1, none⟩ (.int .i64 ((rd_T59 x13_1 x15_1).f1)))) := ⟨sH⟩
           (try clear HO_4)
           (try clear HO_13)
           (try clear BK109)
           (try clear HB)
           generalize ((w27.setCell ⟨gb109, 0, none⟩ (.int .i64 ((rd_T59 x13_1 x15_1).f0))).setCell ⟨gb109, 1, none⟩ (.int .i64 ((rd_T59 x13_1 x15_1).f1))) = w30 at n0_ n1_ n2_ n3_ ⊢
           have HO_4 := n0_
           have HO_13 := n1_
           have BK109 := n2_
           have HB := n3_
           clear n0_ n1_ n2_ n3_
           replace HO_4 := sA (Kd.R_drew HO_4.out)
           replace HO_13 := sA (Kd.R_drew HO_13.out)
           replace BK109 := sA (blk_drew BK109.out)
           replace HB := sA (below_drew1 HB.out)
           have p110 : 0 ≤ ((ji13) : Int) := of_decide_eq_true (by first | (with_reducible assumption) | assumption)
           have q110 : (ji13) < (x4_1.length : Int) := of_decide_eq_true (by first | (with_reducible assumption) | assumption)
           obtain ⟨ad110, e110, hx110_0, hx110_1⟩ := at_T59 (Kd.R_reads' HO_4.out).2.2 (ji13) p110 q110
           cases e110
           replace p110 := eq_true p110
           replace q110 := eq_true q110
           refine start_ (n := 12) (S := fun w' => w'.cell? ⟨gb109, 0, none⟩ = some (.int .i64 ((rd_T59 x13_1 x15_1).f0)) ∧ w'.cell? ⟨gb109, 1, none⟩ = some (.int .i64 ((rd_T59 x13_1 x15_1).f1)) ∧ w'.cell? (ad110.add (((ji13)).toNat * 2)) = some (.int .i64 ((rd_T59 x4_1 (ji13)).f0)) ∧ w'.cell? ⟨(ad110.add (((ji13)).toNat * 2)).block, (ad110.add (((ji13)).toNat * 2)).off + 1, none⟩ = some (.int .i64 ((rd_T59 x4_1 (ji13)).f1))) (ds := []) (sM 12 0) (by kernel_rfl) rfl rfl ⟨sC BK109 0 rfl, sC BK109 1 rfl, hx110_0, hx110_1⟩ (fun hHeld => ?_); refine with_tabW impl_joined.tab7 impl_joined.bits7 (fun HT_ HW_ => ?_)
           generalize w30.drew = w31 at HO_4 HO_13 BK109 HB hx110_0 hx110_1 hHeld ⊢
           refine sP (v := ?_) (a' := ?_) 0 22 (sM 12 1) HT_ ?_ ?_ ?_; rotate_left 2
           ·intro w'; go_simp; with_reducible rfl
           ·simp only [Act.put, sI, sZ, sV, i64_w, i32_w]; rfl
           refine sP (v := ?_) (a' := ?_) 1 23 (sM 12 3) HT_ ?_ ?_ ?_; rotate_left 2
           ·intro w'; go_simp; with_reducible rfl
           ·simp only [Act.put, sI, sZ, sV, i64_w, i32_w]; rfl
           refine sP (v := ?_) (a' := ?_) 2 24 (sM 12 7) HT_ ?_ ?_ ?_; rotate_left 2
           ·intro w'; go_simp; with_reducible rfl
           ·simp only [Act.put, sI, sZ, sV, i64_w, i32_w]; rfl
           refine sP (v := ?_) (a' := ?_) 3 25 (sM 12 15) HT_ ?_ ?_ ?_; rotate_left 2
           ·intro w'; go_simp; with_reducible rfl
           ·simp only [Act.put, sI, sZ, sV, i64_w, i32_w]; rfl
           refine sP (v := ?_) (a' := ?_) 5 27 (sM 12 47) HT_ ?_ ?_ ?_; rotate_left 2
           ·intro w'; go_simp; with_reducible rfl
           ·simp only [Act.put, sI, sZ, sV, i64_w, i32_w]; rfl
           refine sP (v := ?_) (a' := ?_) 6 28 (sM 12 111) HT_ ?_ ?_ ?_; rotate_left 2
           ·intro w'; go_simp; with_reducible rfl
           ·simp only [Act.put, sI, sZ, sV, i64_w, i32_w]; rfl
           refine sP (v := ?_) (a' := ?_) 7 29 (sM 12 239) HT_ ?_ ?_ ?_; rotate_left 2
           ·intro w'; go_simp; with_reducible rfl
           ·simp only [Act.put, sI, sZ, sV, i64_w, i32_w]; rfl
           refine sP (v := ?_) (a' := ?_) 8 30 (sM 12 495) HT_ ?_ ?_ ?_; rotate_left 2
           ·intro w'; go_simp; with_reducible rfl
           ·simp only [Act.put, sI, sZ, sV, i64_w, i32_w]; rfl
           refine sT (v := ?_) (a' := ?_) 4 26 (sM 12 511) HT_ HW_ hHeld ?_ ?_ ?_; rotate_left 2
           ·rintro w' ⟨s0, s1, s2, s3⟩; go_simp; with_reducible rfl
           ·simp only [Act.put, sI, sZ, sV, i64_w, i32_w]; rfl
           refine sT (v := ?_) (a' := ?_) 9 31 (sM 12 1023) HT_ HW_ hHeld ?_ ?_ ?_; rotate_left 2
           ·rintro w' ⟨s0, s1, s2, s3⟩; go_simp; with_reducible rfl
           ·simp only [Act.put, sI, sZ, sV, i64_w, i32_w]; rfl
           refine sP (v := ?_) (a' := ?_) 10 32 (sM 12 2047) HT_ ?_ ?_ ?_; rotate_left 2
           ·intro w'; go_simp; with_reducible rfl
           ·simp only [Act.put, sI, sZ, sV, i64_w, i32_w]; rfl
           refine sP (v := ?_) (a' := ?_) 11 33 (sM 12 4095) HT_ ?_ ?_ ?_; rotate_left 2
           ·intro w'; go_simp; with_reducible rfl
           ·simp only [Act.put, sI, sZ, sV, i64_w, i32_w]; rfl
           refine done_ (done_of HT_.out (by kernel_rfl)) ?_
           obtain ⟨_, _, _, _⟩ := sD2 BK109
           try go_wp2_with (first | ((with_reducible refine gate_builtin (b := .append) (xs := #[.tmp 46, .tmp 48]) rfl ?_); at_builtin; refine Kd.R_append k59 (w0 := w) w.heap.size rfl (.tmp 46) (.tmp 48) 29 59 (.agg #[(.int .i64 0), (.int .i64 0)]) 16 rfl Try.underlying29 info59 rfl (by decide) (by omega) (.slice (some ad110) x4_1.length co29) x4_1 (⟨(rd_T59 x13_1 x15_1).f0, (rd_T59 x13_1 x15_1).f1⟩ : S59) [.int .i64 ((rd_T59 x13_1 x15_1).f0), .int .i64 ((rd_T59 x13_1 x15_1).f1)] (fun k_ => some k_ ≠ (.slice (some ad108) x13_1.length co7 : Value).ownBlock ∧ k_ ≠ gb109) (fun _ => False) rfl rfl ?aP (fun _ hk => hk.elim) ?aF ?aO ?aB ?aS ?aL ?_; (case aP => exact k59_mkM _ _ _ (⟨(rd_T59 x13_1 x15_1).f0, (rd_T59 x13_1 x15_1).f1⟩ : S59)); (case aB => exact sH); (case aF => exact (fun k_ hk => ⟨Kd.fresh' (Kd.R_lt (sR HO_13.out)) k_ hk, Kd.freshB (g := gb109) (o := .cells #[.int .i64 ((rd_T59 x13_1 x15_1).f0), .int .i64 ((rd_T59 x13_1 x15_1).f1)] 59 (0, 0)) (sB BK109.out) k_ hk⟩)); (case aO => exact (sR HO_4.out)); (case aS => exact (below_size sH)); (case aL => have := LMc26.out; omega); intro v114 w33 ho hb hg hat; rw [← Ny113.out] at ho; replace HO_13 := sA (Kd.R_after (ok := (fun k_ => k_ ≠ gb109)) (sR (Kd.R_mono HO_13.out (fun _ hk => ⟨hk.2, hk.1⟩))) hg hat); replace BK109 := sA (blk_grown (g := gb109) (o := .cells #[.int .i64 ((rd_T59 x13_1 x15_1).f0), .int .i64 ((rd_T59 x13_1 x15_1).f1)] 59 (0, 0)) (sB BK109.out) hg (Kd.R_away HO_4.out (fun _ hk => hk.2))); replace HB := sA (hb); have HO115 := sA (ho); clear HO_4; clear ho hb hg hat))
           (try simp only [← hl13_1])
           go_roundg k1
           case measure => have := HK1.out; omega
           case rel => exact ⟨(y113), (x13_1), (wrap64 (x15_1 + 1)), (by first | rfl | (simp; done) | (simp [*]; done)), H', ⟨by have := HK1.out; omega⟩, ⟨by (try simp only [hl13_1]); (with_reducible repeat (first | apply Kd.R_alloc | apply Kd.R_drewN | apply Kd.R_drew)); exact Kd.R_mono HO115.out (fun _ hk => hk.1)⟩, ⟨by (try simp only [hl13_1]); (with_reducible repeat (first | apply Kd.R_alloc | apply Kd.R_drewN | apply Kd.R_drew)); exact Kd.R_mono HO_13.out (fun _ hk => hk.2)⟩, ⟨sH⟩⟩
          ·rw [if_neg c26] at H
           exact absurd H (by simp)
        ·rw [if_neg c15] at H
         exact absurd H (by simp)
       ·rw [if_neg c14] at H
        exact absurd H (by simp)
      ·rw [if_neg c12] at H
       have c12b0 : decide (0 ≤ (wrap64 ((x4_1.length : Int) - 1))) = false := decide_eq_false c12
       clear c12
       by_cases c34 : x4_1.length < 8796093022208
       ·rw [if_pos c34] at H
        have LMc34 := sA c34
        clear c34
        obtain ⟨y116, hy116⟩ : ∃ y_ : List (S59), y_ = (x4_1 ++ [(⟨(rd_T59 x13_1 x15_1).f0, (rd_T59 x13_1 x15_1).f1⟩ : S59)]) := ⟨_, rfl⟩
        replace H : (impl_joined.l0 k1 y116 x13_1 (t101.length : Int) (wrap64 (x15_1 + 1))) = some r := by first | (rw [hy116]; with_reducible exact H) | (have H2_ := (Option.bind_some _ _).symm.trans H; rw [hy116]; with_reducible exact H2_) | (have H2_ := (Option.bind_some _ _).symm.trans H; with_reducible exact H2_) | with_reducible exact H | (rw [hy116]; exact H) | exact H
        have Ny116 := sA hy116
        clear hy116
        have H' := sA H
        clear H
        have p108 : 0 ≤ (x15_1 : Int) := of_decide_eq_true (by first | (with_reducible assumption) | assumption)
        have q108 : x15_1 < (x13_1.length : Int) := of_decide_eq_true (by first | (with_reducible assumption) | assumption)
        obtain ⟨ad108, e108, hx108_0, hx108_1⟩ := at_T59 (Kd.R_reads' HO_13.out).2.2 x15_1 p108 q108
        cases e108
        replace p108 := eq_true p108
        replace q108 := eq_true q108
        try go_wp2_with (first | ((with_reducible refine gate_dst (N := 6) rfl ?_); refine box_event ?hg (N := 6) ?hd (cs := #[.int .i64 0, .int .i64 0]) (t := 59) ?hr ?_; (case hd => rfl); (case hg => rfl); (case hr => first | (go_simp; done) | (go_simp; rfl)); intro gb109 hg w35 hbox hb; replace HO_4 := sA (Kd.R_below (Kd.R_elderB (sR HO_4.out) gb109 (Nat.le_of_eq hg.symm)) hb); replace HO_13 := sA (Kd.R_below (Kd.R_elderB (sR HO_13.out) gb109 (Nat.le_of_eq hg.symm)) hb); have BK109 := sA (hbox); have GW109 := sA ((by rw [hg]; exact (below_size sH) : w.heap.size ≤ gb109)); have GE109 := sA ((by rw [hg]; exact (below_size sH) : w.heap.size ≤ gb109)); replace HB := sA (below_step sH hb); clear hb hbox hg; obtain ⟨_, _, _, _⟩ := sD2 BK109; obtain ⟨Ao37, co37, eo37⟩ := Kd.R_slice HO_4.out; subst eo37))
        have n0_ : Aside0 (Kd.R k59 59 ((w35.setCell ⟨gb109, 0, none⟩ (.int .i64 ((rd_T59 x13_1 x15_1).f0))).setCell ⟨gb109, 1, none⟩ (.int .i64 ((rd_T59 x13_1 x15_1).f1))) w.heap.size (fun k_ => some k_ ≠ (.slice (some ad108) x13_1.length co7 : Value).ownBlock ∧ k_ ≠ gb109) (.slice Ao37 x4_1.length co37) x4_1) := ⟨sR (Kd.R_mono (Kd.R_far (p := ⟨gb109, 1, none⟩) (Kd.R_far (p := ⟨gb109, 0, none⟩) (Kd.R_mono HO_4.out (fun k_ hk => (⟨hk, hk.2⟩ : _ ∧ k_ ≠ gb109))) (fun _ hk => hk.2) (.int .i64 ((rd_T59 x13_1 x15_1).f0))) (fun _ hk => hk.2) (.int .i64 ((rd_T59 x13_1 x15_1).f1))) (fun _ hk => ⟨hk.1.1, hk.1.2⟩))⟩
        have n1_ : Aside0 (Kd.R k59 59 ((w35.setCell ⟨gb109, 0, none⟩ (.int .i64 ((rd_T59 x13_1 x15_1).f0))).setCell ⟨gb109, 1, none⟩ (.int .i64 ((rd_T59 x13_1 x15_1).f1))) w.heap.size (fun k_ => some k_ ≠ (.slice Ao37 x4_1.length co37 : Value).ownBlock ∧ k_ ≠ gb109) (.slice (some ad108) x13_1.length co7) x13_1) := ⟨sR (Kd.R_mono (Kd.R_far (p := ⟨gb109, 1, none⟩) (Kd.R_far (p := ⟨gb109, 0, none⟩) (Kd.R_mono HO_13.out (fun k_ hk => (⟨hk, hk.2⟩ : _ ∧ k_ ≠ gb109))) (fun _ hk => hk.2) (.int .i64 ((rd_T59 x13_1 x15_1).f0))) (fun _ hk => hk.2) (.int .i64 ((rd_T59 x13_1 x15_1).f1))) (fun _ hk => ⟨hk.1.1, hk.1.2⟩))⟩
        have n2_ : Aside0 (((w35.setCell ⟨gb109, 0, none⟩ (.int .i64 ((rd_T59 x13_1 x15_1).f0))).setCell ⟨gb109, 1, none⟩ (.int .i64 ((rd_T59 x13_1 x15_1).f1))).heap[gb109]? = some (.cells #[.int .i64 ((rd_T59 x13_1 x15_1).f0), .int .i64 ((rd_T59 x13_1 x15_1).f1)] 59 (0, 0))) := ⟨by (with_reducible repeat first | apply blk_drewN | apply blk_drew | apply blk_alloc); refine blk_put (cs := #[.int .i64 ((rd_T59 x13_1 x15_1).f0), .int .i64 0]) ?_ 1 _ rfl; (with_reducible repeat first | apply blk_drewN | apply blk_drew | apply blk_alloc); refine blk_put (cs := #[.int .i64 0, .int .i64 0]) ?_ 0 _ rfl; (with_reducible repeat first | apply blk_drewN | apply blk_drew | apply blk_alloc); exact BK109.out⟩
        have n3_ : Aside0 (Below w.heap.size w ((w35.setCell ⟨gb109, 0, none⟩ (.int .i64 ((rd_T59 x13_1 x15_1).f0))).setCell ⟨gb109, 1, none⟩ (.int .i64 ((rd_T59 x13_1 x15_1).f1)))) := ⟨sH⟩
        (try clear HO_4)
        (try clear HO_13)
        (try clear BK109)
        (try clear HB)
        generalize ((w35.setCell ⟨gb109, 0, none⟩ (.int .i64 ((rd_T59 x13_1 x15_1).f0))).setCell ⟨gb109, 1, none⟩ (.int .i64 ((rd_T59 x13_1 x15_1).f1))) = w38 at n0_ n1_ n2_ n3_ ⊢
        have HO_4 := n0_
        have HO_13 := n1_
        have BK109 := n2_
        have HB := n3_
        clear n0_ n1_ n2_ n3_
        replace HO_4 := sA (Kd.R_drew HO_4.out)
        replace HO_13 := sA (Kd.R_drew HO_13.out)
        replace BK109 := sA (blk_drew BK109.out)
        replace HB := sA (below_drew1 HB.out)
        refine start_ (n := 12) (S := fun w' => True) (ds := []) (sM 12 0) (by kernel_rfl) rfl rfl trivial (fun hHeld => ?_); refine with_tabW impl_joined.tab7 impl_joined.bits7 (fun HT_ HW_ => ?_)
        generalize w38.drew = w39 at HO_4 HO_13 BK109 HB hHeld ⊢
        refine sP (v := ?_) (a' := ?_) 0 22 (sM 12 1) HT_ ?_ ?_ ?_; rotate_left 2
        ·intro w'; go_simp; with_reducible rfl
        ·simp only [Act.put, sI, sZ, sV, i64_w, i32_w]; rfl
        refine sP (v := ?_) (a' := ?_) 1 23 (sM 12 3) HT_ ?_ ?_ ?_; rotate_left 2
        ·intro w'; go_simp; with_reducible rfl
        ·simp only [Act.put, sI, sZ, sV, i64_w, i32_w]; rfl
        refine sP (v := ?_) (a' := ?_) 2 24 (sM 12 7) HT_ ?_ ?_ ?_; rotate_left 2
        ·intro w'; go_simp; with_reducible rfl
        ·simp only [Act.put, sI, sZ, sV, i64_w, i32_w]; rfl
        refine pure_ (i := 3) (N := some 25) (v := undef) (a' := ?_) (sM 12 15) rfl rfl (any_of HT_.out (by kernel_rfl)) (fun _ _ _ h => h) (Or.inr ⟨by rfl, rfl⟩) ?_ ?_
        rotate_left
        ·simp only [Act.put, sI, sZ, sV, i64_w, i32_w]
         rfl
        refine pure_ (i := 4) (N := some 26) (v := undef) (a' := ?_) (sM 12 31) rfl rfl (any_of HT_.out (by kernel_rfl)) (fun _ _ _ h => h) (Or.inr ⟨by rfl, rfl⟩) ?_ ?_
        rotate_left
        ·simp only [Act.put, sI, sZ, sV, i64_w, i32_w]
         rfl
        refine pure_ (i := 5) (N := some 27) (v := undef) (a' := ?_) (sM 12 63) rfl rfl (any_of HT_.out (by kernel_rfl)) (fun _ _ _ h => h) (Or.inr ⟨by rfl, rfl⟩) ?_ ?_
        rotate_left
        ·simp only [Act.put, sI, sZ, sV, i64_w, i32_w]
         rfl
        refine pure_ (i := 6) (N := some 28) (v := undef) (a' := ?_) (sM 12 127) rfl rfl (any_of HT_.out (by kernel_rfl)) (fun _ _ _ h => h) (Or.inr ⟨by rfl, rfl⟩) ?_ ?_
        rotate_left
        ·simp only [Act.put, sI, sZ, sV, i64_w, i32_w]
         rfl
        refine pure_ (i := 7) (N := some 29) (v := undef) (a' := ?_) (sM 12 255) rfl rfl (any_of HT_.out (by kernel_rfl)) (fun _ _ _ h => h) (Or.inr ⟨by rfl, rfl⟩) ?_ ?_
        rotate_left
        ·simp only [Act.put, sI, sZ, sV, i64_w, i32_w]
         rfl
        refine pure_ (i := 8) (N := some 30) (v := undef) (a' := ?_) (sM 12 511) rfl rfl (any_of HT_.out (by kernel_rfl)) (fun _ _ _ h => h) (Or.inr ⟨by rfl, rfl⟩) ?_ ?_
        rotate_left
        ·simp only [Act.put, sI, sZ, sV, i64_w, i32_w]
         rfl
        refine pure_ (i := 9) (N := some 31) (v := undef) (a' := ?_) (sM 12 1023) rfl rfl (any_of HT_.out (by kernel_rfl)) (fun _ _ _ h => h) (Or.inr ⟨by rfl, rfl⟩) ?_ ?_
        rotate_left
        ·simp only [Act.put, sI, sZ, sV, i64_w, i32_w]
         rfl
        refine pure_ (i := 10) (N := some 32) (v := undef) (a' := ?_) (sM 12 2047) rfl rfl (any_of HT_.out (by kernel_rfl)) (fun _ _ _ h => h) (Or.inr ⟨by rfl, rfl⟩) ?_ ?_
        rotate_left
        ·simp only [Act.put, sI, sZ, sV, i64_w, i32_w]
         rfl
        refine sP (v := ?_) (a' := ?_) 11 33 (sM 12 4095) HT_ ?_ ?_ ?_; rotate_left 2
        ·intro w'; go_simp; with_reducible rfl
        ·simp only [Act.put, sI, sZ, sV, i64_w, i32_w]; rfl
        refine done_ (done_of HT_.out (by kernel_rfl)) ?_
        obtain ⟨_, _, _, _⟩ := sD2 BK109
        try go_wp2_with (first | ((with_reducible refine gate_builtin (b := .append) (xs := #[.tmp 46, .tmp 48]) rfl ?_); at_builtin; refine Kd.R_append k59 (w0 := w) w.heap.size rfl (.tmp 46) (.tmp 48) 29 59 (.agg #[(.int .i64 0), (.int .i64 0)]) 16 rfl Try.underlying29 info59 rfl (by decide) (by omega) (.slice Ao37 x4_1.length co37) x4_1 (⟨(rd_T59 x13_1 x15_1).f0, (rd_T59 x13_1 x15_1).f1⟩ : S59) [.int .i64 ((rd_T59 x13_1 x15_1).f0), .int .i64 ((rd_T59 x13_1 x15_1).f1)] (fun k_ => some k_ ≠ (.slice (some ad108) x13_1.length co7 : Value).ownBlock ∧ k_ ≠ gb109) (fun _ => False) rfl rfl ?aP (fun _ hk => hk.elim) ?aF ?aO ?aB ?aS ?aL ?_; (case aP => exact k59_mkM _ _ _ (⟨(rd_T59 x13_1 x15_1).f0, (rd_T59 x13_1 x15_1).f1⟩ : S59)); (case aB => exact sH); (case aF => exact (fun k_ hk => ⟨Kd.fresh' (Kd.R_lt (sR HO_13.out)) k_ hk, Kd.freshB (g := gb109) (o := .cells #[.int .i64 ((rd_T59 x13_1 x15_1).f0), .int .i64 ((rd_T59 x13_1 x15_1).f1)] 59 (0, 0)) (sB BK109.out) k_ hk⟩)); (case aO => exact (sR HO_4.out)); (case aS => exact (below_size sH)); (case aL => have := LMc34.out; omega); intro v117 w41 ho hb hg hat; rw [← Ny116.out] at ho; replace HO_13 := sA (Kd.R_after (ok := (fun k_ => k_ ≠ gb109)) (sR (Kd.R_mono HO_13.out (fun _ hk => ⟨hk.2, hk.1⟩))) hg hat); replace BK109 := sA (blk_grown (g := gb109) (o := .cells #[.int .i64 ((rd_T59 x13_1 x15_1).f0), .int .i64 ((rd_T59 x13_1 x15_1).f1)] 59 (0, 0)) (sB BK109.out) hg (Kd.R_away HO_4.out (fun _ hk => hk.2))); replace HB := sA (hb); have HO118 := sA (ho); clear HO_4; clear ho hb hg hat))
        (try simp only [← hl13_1])
        go_roundg k1
        case measure => have := HK1.out; omega
        case rel => exact ⟨(y116), (x13_1), (wrap64 (x15_1 + 1)), (by first | rfl | (simp; done) | (simp [*]; done)), H', ⟨by have := HK1.out; omega⟩, ⟨by (try simp only [hl13_1]); (with_reducible repeat (first | apply Kd.R_alloc | apply Kd.R_drewN | apply Kd.R_drew)); exact Kd.R_mono HO118.out (fun _ hk => hk.1)⟩, ⟨by (try simp only [hl13_1]); (with_reducible repeat (first | apply Kd.R_alloc | apply Kd.R_drewN | apply Kd.R_drew)); exact Kd.R_mono HO_13.out (fun _ hk => hk.2)⟩, ⟨sH⟩⟩
       ·rw [if_neg c34] at H
        exact absurd H (by simp)
     ·rw [if_neg c11] at H
      exact absurd H (by simp)
    ·rw [if_neg c10] at H
     exact absurd H (by simp)
   ·rw [if_neg c9] at H
    have c9b0 : decide (x15_1 < (t101.length : Int)) = false := decide_eq_false c9
    (try have c9d13_1 : decide (x15_1 < (x13_1.length : Int)) = false := by rw [← hl13_1]; exact c9b0)
    clear c9
    obtain rfl := Option.some.inj H
    go_wp2
    go_ret
    exact ⟨_, by first | rfl | (simp [errW_none, errW_some] <;> rfl) | (simp [*, errW_none, errW_some] <;> rfl), by (with_reducible repeat (first | apply Kd.R_alloc | apply Kd.R_drewN | apply Kd.R_drew)); exact Kd.R_mono HO_4.out (fun _ hk => trivial), by repeat (first | (with_reducible first | exact HB.out | apply sLA | apply sLN | apply sLD) | exact HB.out)⟩

end Go.Proofs.Ytligcknlmbgbiaa.P

namespace Go.Proofs.Ytligcknlmbgbiaa.P
open Go.RowKit Go.Proofs.YtligcknlmbgbiaaW.PrintWords Go.Proofs.YtligcknlmbgbiaaW.PrintLast Go.Proofs.YtligcknlmbgbiaaW.PrintMore
attribute [local go_sem] max2_int min2_int max_two min_two max_three min_three max_four min_four
set_option linter.unusedVariables false
set_option linter.unusedSimpArgs false

/-! ### impl_Span_68: function 68 (by hand) -/
open Go.Shelf
def impl_Span_68.grow_ren : Go.Shelf.Ren := ⟨fun | 4 => 81 | n => n, fun | 22 => 29 | 25 => 59 | 3 => 3 | 4 => 4 | 9 => 9 | 20 => 20 | 0 => 0 | 2 => 3 | n => n, fun | n => n⟩
theorem impl_Span_68.grow : Lays8.n4 Try.prog impl_Span_68.grow_ren := {
  mixed := by kernel_rfl
  f4 := ⟨Try.f81.name, by decide, Try.func81.trans (congrArg some (by kernel_rfl))⟩
  t0 := Try.underlying0
  a0 := Try.isAgg0
  z0 := Try.sizeOf0
  v0 := Try.zeroValue0
  t3 := Try.underlying3
  a3 := Try.isAgg3
  z3 := Try.sizeOf3
  v3 := Try.zeroValue3
  t4 := Try.underlying4
  a4 := Try.isAgg4
  z4 := Try.sizeOf4
  v4 := Try.zeroValue4
  t9 := Try.underlying9
  a9 := Try.isAgg9
  z9 := Try.sizeOf9
  v9 := Try.zeroValue9
  t20 := Try.underlying20
  a20 := Try.isAgg20
  z20 := Try.sizeOf20
  v20 := Try.zeroValue20
  t22 := Try.underlying29
  a22 := Try.isAgg29
  z22 := Try.sizeOf29
  v22 := Try.zeroValue29 }


theorem impl_Span_68.infoE : (Try.prog.info? 59).map (fun i => (i.zero, i.size, i.bytes)) = some (some (.agg #[(.int .i64 0), (.int .i64 0)]), k59.sz, 16) := by kernel_rfl
theorem impl_Span_68.row_at {w : World} {A : Option Addr} {n : Nat} {xs : List (List S59)} (h : Kd.C (Kd.slice 59 k59) w A n xs) (j : Nat) (hj : j < n) : ∃ ad A0 c0, A = some ad ∧ w.cell? (ad.add j) = some (.slice A0 (xs.getD j []).length c0) ∧ (xs.getD j []).length ≤ c0 ∧ Kd.C k59 w A0 (xs.getD j []).length (xs.getD j []) := by
  obtain ⟨ad, c, e, _, hK, hc0⟩ := Kd.C_get h ([] : List S59) (j : Int) (by omega) (by omega)
  rw [Int.toNat_natCast] at hK hc0
  have hc : ∀ i u, c[i]? = some u → w.cell? (ad.add (j * 1 + i)) = some u := hc0
  obtain ⟨A0, c0, rfl, l0, g0⟩ := hK
  exact ⟨ad, A0, c0, e, by have hq := hc 0 _ rfl; rwa [Nat.mul_one, Nat.add_zero] at hq, l0, g0⟩
theorem impl_Span_68.grow_nil (n : Nat) (w : World) (hn : n * 16 ≤ 140737488355328) :
    Calls Try.prog 81 #[.slice none 0 0, .int .i64 n] w fun e w' => ∃ v, e = .returned v ∧ Kd.R k59 59 w' w.heap.size (fun _ => True) v [] ∧ Below w.heap.size w w' := by
  rcases Nat.eq_zero_or_pos n with h0 | h0
  · subst h0
    exact (Any8.slices_Grow_room impl_Span_68.grow none 0 0 0 w (by omega) (by omega) (by omega) (by omega)).mono fun e w' ⟨he, hw⟩ => ⟨_, he, by rw [hw]; exact Kd.R_nil _ _ _ _ _, by rw [hw]; exact Below.refl _ _⟩
  · obtain ⟨i0, hi, hzz⟩ := Option.map_eq_some_iff.1 impl_Span_68.infoE
    simp only [Prod.mk.injEq] at hzz
    obtain ⟨hz0, hz1, hz2⟩ := hzz
    have hs : 0 < i0.size := by rw [hz1]; decide
    refine (Any8.slices_Grow_grow impl_Span_68.grow i0 _ hi hz0 hs none 0 0 n [] w (by omega) (by omega) (by rw [hz2]; omega) (by omega) (by simp) (fun _ => rfl) (fun a h => by cases h)).mono ?_
    rintro e w' ⟨rfl, rfl⟩
    have hg := grownCap_ge w (0 + n) 0 (impl_Span_68.grow_ren.t 25)
    have hm := grownCap_le_maxLen w (0 + n) 0 (impl_Span_68.grow_ren.t 25) (by unfold maxLen; omega)
    refine ⟨_, rfl, ⟨fun _ _ => trivial, [], ⟨by simp, .inr ⟨w.heap.size, _, _, rfl, Nat.le_refl _, heap_alloc_new w.drew _, by simp, hm, ?_, by simp⟩⟩, Reps.none _ _⟩, below_alloc (below_drew (Below.refl _ _)) _⟩
    simp only [Array.size_append, size_zeroCells, List.size_toArray, List.length_nil]
    have e1 : ((.agg #[(.int .i64 0), (.int .i64 0)]) : Value).cells.size = k59.sz := rfl
    rw [e1, Nat.zero_add, ← Nat.add_mul]
    refine congrArg (· * _) ?_
    omega
def impl_Span_68.f (l : List (List S59)) : Option (List S59) := if l.flatten.length ≤ 1099511627776 then some l.flatten else none
theorem impl_Span_68.fl_succ (l : List (List S59)) (k : Nat) (h : k < l.length) : (l.take (k + 1)).flatten = (l.take k).flatten ++ l.getD k [] := by
  rw [List.take_succ_eq_append_getElem h, List.flatten_append]
  simp [List.getD_eq_getElem?_getD, List.getElem?_eq_getElem h]
theorem impl_Span_68.fl_le (l : List (List S59)) (k : Nat) : (l.take k).flatten.length ≤ l.flatten.length := by
  conv => rhs; rw [← List.take_append_drop k l, List.flatten_append, List.length_append]
  omega
set_option maxHeartbeats 1000000 in
set_option maxRecDepth 100000 in
theorem impl_Span_68.calls (A0 : Option Addr) (c0 : Nat) (l0 : List (List S59)) (r : List S59) (w : World) (hr0 : Kd.C (Kd.slice 59 k59) w A0 l0.length l0) (hc0 : l0.length ≤ c0) (h : impl_Span_68.f l0 = some r) :
  Calls Try.prog 68 #[.slice A0 l0.length c0] w fun e w' => ∃ v0_ : Value, e = .returned (v0_) ∧ Kd.R k59 59 w' w.heap.size (fun _ => True) v0_ r ∧ Below w.heap.size w w' := by
 unfold impl_Span_68.f at h
 by_cases hl : l0.flatten.length ≤ 1099511627776
 ·rw [if_pos hl] at h
  obtain rfl := Option.some.inj h
  have HN := sA hr0.2.1
  have HR := sA hr0
  have HL := sA hl
  clear hr0 hc0 hl h
  go_enter Try.func68, Try.ntmps68
  go_wp2
  go_loopg [3, 11] l0.length (fun gg s3 s11 wr => ∃ kk : Nat, kk ≤ l0.length ∧ l0.length - kk ≤ gg ∧ s11 = .int .i64 kk ∧ s3 = .int .i64 (((l0.take kk).flatten.length : Nat) : Int) ∧ w = wr)
  case atStart => exact ⟨0, Nat.zero_le _, by omega, rfl, by simp, rfl⟩
  case round =>
   obtain ⟨kk, hkk, hg, rfl, rfl, rfl⟩ := hrel
   have hn := HN.out
   by_cases hlt : kk < l0.length
   ·have hltz : (kk : Int) < (l0.length : Int) := by omega
    obtain ⟨ad, A1, c1, e, hx, hc1, hr1⟩ := impl_Span_68.row_at HR.out kk hlt
    cases e
    have hs := congrArg List.length (impl_Span_68.fl_succ l0 kk hlt)
    rw [List.length_append] at hs
    have hb := impl_Span_68.fl_le l0 (kk + 1)
    have hl := HL.out
    have HS := sA hs
    rw [hs] at hb
    clear hs hc1 hr1
    generalize (l0.take kk).flatten.length = m at hb HS ⊢
    generalize (l0.getD kk []).length = q at hb HS hx ⊢
    have hmq : m + q ≤ 1099511627776 := by omega
    clear hb hl
    have hnn : ¬ ((m : Int) + (q : Int) < 0) := by omega
    go_wp2
    go_roundg (l0.length - (kk + 1))
    case measure => omega
    case rel => exact ⟨kk + 1, by omega, by omega, by go_num, by rw [HS.out]; push_cast; rfl, rfl⟩
   ·have hltz : ¬ (kk : Int) < (l0.length : Int) := by omega
    have hk : kk = l0.length := by omega
    subst hk
    rw [List.take_length]
    have HG := sA (impl_Span_68.grow_nil l0.flatten.length w (by have := HL.out; omega))
    generalize l0.flatten.length = T at HG ⊢
    go_wp2_with (go_at_call 81; (with_reducible refine HG.out.mono ?_); rintro e w' ⟨v, rfl, ho, hb⟩; have HO := sA ho; have HB := sA hb; clear ho hb)
    go_loopg [6, 27] l0.length (fun gg s6 s27 wr => ∃ (kk : Nat) (v : Value), kk ≤ l0.length ∧ l0.length - kk ≤ gg ∧ s27 = .int .i64 kk ∧ s6 = v ∧ Aside0 (Kd.R k59 59 wr w.heap.size (fun _ => True) v (l0.take kk).flatten) ∧ Aside0 (Below w.heap.size w wr))
    case atStart => exact ⟨0, v, Nat.zero_le _, by omega, rfl, rfl, ⟨by simpa using HO.out⟩, HB⟩
    case round =>
     clear HO HB
     obtain ⟨kk, v, hkk, hg, rfl, rfl, HO, HB⟩ := hrel
     have hn := HN.out
     by_cases hlt : kk < l0.length
     ·have hltz : (kk : Int) < (l0.length : Int) := by omega
      obtain ⟨ad, A1, c1, e, hx0, hc1, hr1⟩ := impl_Span_68.row_at HR.out kk hlt
      cases e
      have hx := (HB.out.cell (World.block_lt_of_cell? w _ hx0)).trans hx0
      have HR1 := sA (Kd.C_below hr1 HB.out)
      have HS := sA (impl_Span_68.fl_succ l0 kk hlt)
      have HF := sA (impl_Span_68.fl_le l0 (kk + 1))
      clear hx0 hc1 hr1
      generalize l0.getD kk [] = ys at hx HR1 HS
      generalize (l0.take kk).flatten = xs at HO HS
      go_wp2_with ((with_reducible refine gate_builtin (b := .append) (xs := #[.tmp 31, .tmp 32]) rfl ?_); at_builtin; refine Kd.R_append_rows k59 (w0 := w) w.heap.size rfl (.tmp 31) (.tmp 32) 29 59 (.agg #[(.int .i64 0), (.int .i64 0)]) 16 rfl Try.underlying29 impl_Span_68.infoE rfl (by decide) (by omega) _ xs ys _ _ _ (fun _ => True) (fun _ => False) rfl rfl HO.out HR1.out (fun _ _ h => h) (fun _ h => h.elim) (fun _ _ => trivial) HB.out HB.out.size (by have h1 := HF.out; have h2 := HL.out; rw [HS.out, List.length_append] at h1; omega) ?_; intro v2 w2 ho hb hg_ hat_; rw [← HS.out] at ho; have HO2 := sA ho; have HB2 := sA hb; clear ho hb hg_ hat_)
      go_roundg (l0.length - (kk + 1))
      case measure => omega
      case rel => exact ⟨kk + 1, v2, by omega, by omega, by go_num, rfl, HO2, HB2⟩
     ·have hltz : ¬ (kk : Int) < (l0.length : Int) := by omega
      have hk : kk = l0.length := by omega
      subst hk
      rw [List.take_length] at HO
      go_wp2
      go_ret
      exact ⟨_, rfl, HO.out, HB.out⟩
 ·rw [if_neg hl] at h
  cases h


end Go.Proofs.Ytligcknlmbgbiaa.P

namespace Go.Proofs.Ytligcknlmbgbiaa.P
open Go.RowKit Go.Proofs.YtligcknlmbgbiaaW.PrintWords Go.Proofs.YtligcknlmbgbiaaW.PrintLast Go.Proofs.YtligcknlmbgbiaaW.PrintMore
attribute [local go_sem] max2_int min2_int max_two min_two max_three min_three max_four min_four
set_option linter.unusedVariables false
set_option linter.unusedSimpArgs false

/-! ### impl_JoinSpans: function 44 -/
def impl_JoinSpans.j0 : Nat → List (S59) → List (S59) → Bool → Option ((List (S59)) × Bool)
  | 0, _, _, _ => none
  | k + 1, x0, x1, x13 => if x13 = true then (some (([] : List (S59)), false)) else ((impl_Span_68.f (([x0, x1] : List (List (S59))))).bind fun t106 => ((impl_joined.f k t106).bind fun t109 => ((impl_few.f t109).bind fun bt112 => (some (bt112.1, bt112.2)))))
def impl_JoinSpans.f (k : Nat) (l0 : List (S59)) (l1 : List (S59)) : Option ((List (S59)) × Bool) := (impl_areSpans.f k l0).bind fun t101 => (if t101 = true then ((impl_areSpans.f k l1).bind fun t102 => (impl_JoinSpans.j0 k l0 l1 (!t102))) else (impl_JoinSpans.j0 k l0 l1 true))
set_option maxHeartbeats 8000000 in
set_option maxRecDepth 100000 in
theorem impl_JoinSpans.calls (k : Nat) (P0_ : Nat → Prop) (A0 : Option Addr) (c0 : Nat) (l0 : List (S59)) (P1_ : Nat → Prop) (A1 : Option Addr) (c1 : Nat) (l1 : List (S59)) (r1 : List (S59)) (r2 : Bool) (w : World) (hs0 : Kd.V k59 59 w w.heap.size (fun k_ => P0_ k_) (.slice A0 l0.length c0) l0) (hs1 : Kd.V k59 59 w w.heap.size (fun k_ => P1_ k_) (.slice A1 l1.length c1) l1) (h : impl_JoinSpans.f k l0 l1 = some (r1, r2)) :
  Calls Try.prog 44 #[.slice A0 l0.length c0, .slice A1 l1.length c1] w fun e w' => ∃ v0_ : Value, e = .returned (.tuple #[v0_, .bool r2]) ∧ Kd.R k59 59 w' w.heap.size (fun k_ => (w.heap.size ≤ k_)) v0_ r1 ∧ Below w.heap.size w w' := by
 have HO0 := sA (show Kd.V k59 59 w w.heap.size (fun k_ => ((P0_ k_ ∨ P1_ k_) ∨ w.heap.size ≤ k_)) (.slice A0 l0.length c0) l0 from Kd.V_mono hs0 (fun k_ hk => .inl (.inl hk)))
 have HO1 := sA (show Kd.V k59 59 w w.heap.size (fun k_ => ((P0_ k_ ∨ P1_ k_) ∨ w.heap.size ≤ k_)) (.slice A1 l1.length c1) l1 from Kd.V_mono hs1 (fun k_ hk => .inl (.inr hk)))
 have HB := sA (Below.refl w.heap.size w)
 have H : ((impl_areSpans.f k l0).bind fun t101 => (if t101 = true then ((impl_areSpans.f k l1).bind fun t102 => (impl_JoinSpans.j0 k l0 l1 (!t102))) else (impl_JoinSpans.j0 k l0 l1 true))) = some (r1, r2) := h
 clear h
 have HC3 := sA H
 clear H
 go_enter Try.func44, Try.ntmps44
 go_upto_region 1 with (fail)
 go_cut [13] (fun v13 wc => ∃ (kq : Nat) (x13_2 : Bool), v13 = .bool x13_2 ∧ Aside0 (impl_JoinSpans.j0 kq l0 l1 x13_2 = some (r1, r2)) ∧ Aside0 (kq ≤ k) ∧ Aside0 (Kd.V k59 59 wc w.heap.size (fun k_ => ((P0_ k_ ∨ P1_ k_) ∨ w.heap.size ≤ k_)) (.slice A0 l0.length c0) l0) ∧ Aside0 (Kd.V k59 59 wc w.heap.size (fun k_ => ((P0_ k_ ∨ P1_ k_) ∨ w.heap.size ≤ k_)) (.slice A1 l1.length c1) l1) ∧ Aside0 (Below w.heap.size w wc))
 case first =>
  have H := HC3.out
  clear HC3
  obtain ⟨t101, A4, H⟩ := sN H
  by_cases c5 : t101 = true
  ·subst c5
   replace H := sY H
   obtain ⟨t102, A6, H⟩ := sN H
   have H' := sA H
   clear H
   go_wp2_with (first | ((with_reducible refine gate_callee (f := 67) rfl ?_); refine goesL_ (some 7) rfl rfl Try.func67 (by kernel_rfl) rfl #[.slice A0 l0.length c0] rfl sG ?_; (with_reducible refine (impl_areSpans.calls k _ _ l0 true _ ?side1 ?side2 A4.out).mono ?_); (case side1 => exact sK (Kd.V_reads' HO0.out).2.2); (case side2 => exact (Kd.V_reads' HO0.out).2.1); rintro e w7 ⟨rfl, hb⟩; refine ⟨_, rfl, ?_⟩; replace HO0 := sA (Kd.V_below (by (with_reducible repeat (first | apply Kd.V_alloc | apply Kd.V_drewN | apply Kd.V_drew)); exact HO0.out) hb); replace HO1 := sA (Kd.V_below (by (with_reducible repeat (first | apply Kd.V_alloc | apply Kd.V_drewN | apply Kd.V_drew)); exact HO1.out) hb); replace HB := sA (below_step sH hb); (try clear hb); (try clear hb2); (try clear hk); (try clear hi)) | (go_at_call 67; (with_reducible refine (impl_areSpans.calls k _ _ l1 t102 _ ?side1 ?side2 A6.out).mono ?_); (case side1 => exact sK (Kd.V_reads' HO1.out).2.2); (case side2 => exact (Kd.V_reads' HO1.out).2.1); rintro e w8 ⟨rfl, hb⟩; replace HO0 := sA (Kd.V_below (by (with_reducible repeat (first | apply Kd.V_alloc | apply Kd.V_drewN | apply Kd.V_drew)); exact HO0.out) hb); replace HO1 := sA (Kd.V_below (by (with_reducible repeat (first | apply Kd.V_alloc | apply Kd.V_drewN | apply Kd.V_drew)); exact HO1.out) hb); replace HB := sA (below_step sH hb); (try clear hb); (try clear hb2); (try clear hk); (try clear hi)))
   go_meet
   case rel => exact ⟨_, (!t102), (by first | rfl | (simp; done) | (simp [*]; done)), H', ⟨by first | omega | exact Nat.le_refl _⟩, ⟨by (with_reducible repeat (first | apply Kd.V_alloc | apply Kd.V_drewN | apply Kd.V_drew)); exact HO0.out⟩, ⟨by (with_reducible repeat (first | apply Kd.V_alloc | apply Kd.V_drewN | apply Kd.V_drew)); exact HO1.out⟩, ⟨sH⟩⟩
  ·replace c5 := Bool.eq_false_iff.mpr c5
   subst c5
   replace H := sX H
   have H' := sA H
   clear H
   go_wp2_with (first | ((with_reducible refine gate_callee (f := 67) rfl ?_); refine goesL_ (some 7) rfl rfl Try.func67 (by kernel_rfl) rfl #[.slice A0 l0.length c0] rfl sG ?_; (with_reducible refine (impl_areSpans.calls k _ _ l0 false _ ?side1 ?side2 A4.out).mono ?_); (case side1 => exact sK (Kd.V_reads' HO0.out).2.2); (case side2 => exact (Kd.V_reads' HO0.out).2.1); rintro e w9 ⟨rfl, hb⟩; refine ⟨_, rfl, ?_⟩; replace HO0 := sA (Kd.V_below (by (with_reducible repeat (first | apply Kd.V_alloc | apply Kd.V_drewN | apply Kd.V_drew)); exact HO0.out) hb); replace HO1 := sA (Kd.V_below (by (with_reducible repeat (first | apply Kd.V_alloc | apply Kd.V_drewN | apply Kd.V_drew)); exact HO1.out) hb); replace HB := sA (below_step sH hb); (try clear hb); (try clear hb2); (try clear hk); (try clear hi)))
   go_meet
   case rel => exact ⟨_, (true), (by first | rfl | (simp; done) | (simp [*]; done)), H', ⟨by first | omega | exact Nat.le_refl _⟩, ⟨by (with_reducible repeat (first | apply Kd.V_alloc | apply Kd.V_drewN | apply Kd.V_drew)); exact HO0.out⟩, ⟨by (with_reducible repeat (first | apply Kd.V_alloc | apply Kd.V_drewN | apply Kd.V_drew)); exact HO1.out⟩, ⟨sH⟩⟩
 case rest =>
  clear HC3
  (try clear c1); (try clear p2); (try clear c4); (try clear c5); (try clear c6)
  obtain ⟨kq, x13_2, rfl, HA, HJ2, HO_0, HO_1, HB⟩ := hcut
  cases kq with
  | zero => exact absurd HA.out (by simp [impl_JoinSpans.j0])
  | succ kj2 =>
   have H := HA.out
   clear HA
   simp only [impl_JoinSpans.j0] at H
   by_cases c10 : x13_2 = true
   ·subst c10
    replace H := sY H
    simp only [Option.some.injEq, Prod.mk.injEq] at H
    obtain ⟨rfl, rfl⟩ := H
    go_wp2
    go_ret2
    exact ⟨_, by first | rfl | (simp [errW_none, errW_some] <;> rfl) | (simp [*, errW_none, errW_some] <;> rfl), by first | exact Kd.R_nil _ _ _ _ _ | exact Kd.N_nil _ _ _ _ _ | exact Kd.V_nil _ _ _ _ _ | exact Kd.Q_nil _ _ _ _ _ | exact Kd.S_nil _ _ _ _ _, by repeat (first | (with_reducible first | exact HB.out | apply sLA | apply sLN | apply sLD) | exact HB.out)⟩
   ·replace c10 := Bool.eq_false_iff.mpr c10
    subst c10
    replace H := sX H
    obtain ⟨y103, hy103⟩ : ∃ y_ : List (List (S59)), y_ = (([l0, l1] : List (List (S59)))) := ⟨_, rfl⟩
    replace H : ((impl_Span_68.f y103).bind fun t106 => ((impl_joined.f kj2 t106).bind fun t109 => ((impl_few.f t109).bind fun bt112 => (some (bt112.1, bt112.2))))) = some (r1, r2) := by first | (rw [hy103]; with_reducible exact H) | (have H2_ := (Option.bind_some _ _).symm.trans H; rw [hy103]; with_reducible exact H2_) | (have H2_ := (Option.bind_some _ _).symm.trans H; with_reducible exact H2_) | with_reducible exact H | (rw [hy103]; exact H) | exact H
    have Ny103 := sA hy103
    clear hy103
    obtain ⟨t106, A11, H⟩ := sN H
    obtain ⟨t109, A12, H⟩ := sN H
    obtain ⟨⟨t112, t115⟩, A13, H⟩ := sN H
    (try dsimp only at H)
    simp only [Option.some.injEq, Prod.mk.injEq] at H
    obtain ⟨rfl, rfl⟩ := H
    go_wp2_with (first | ((with_reducible refine gate_dst (N := 16) rfl ?_); refine Kd.N_lit (Kd.slice 59 k59) _ 29 ?hg (N' := 16) ?hd (xs := ([l0, l1] : List (List (S59)))) (inner := [.slice A0 l0.length c0, .slice A1 l1.length c1]) (ok := (fun k_ => ((P0_ k_ ∨ P1_ k_) ∨ w.heap.size ≤ k_))) (okp := (fun k_ => ((P0_ k_ ∨ P1_ k_) ∨ w.heap.size ≤ k_))) ?hr ?hp (fun _ hk => hk) ((show ∀ k_, wc.heap.size ≤ k_ → (fun k_ => ((P0_ k_ ∨ P1_ k_) ∨ w.heap.size ≤ k_)) k_ from fun k_ hk => (.inr (Nat.le_trans (below_size sH) hk))) _ (Nat.le_refl _)) (Below.refl _ _) (Nat.le_refl _) (by simp) ?_; (case hd => rfl); (case hg => rfl); (case hr => first | (go_simp; done) | (go_simp; rfl)); (case hp => exact (Reps.one (show Kd.FK (Kd.slice 59 k59) _ _ l0 [.slice A0 l0.length c0] from (Kd.FK_slice_mk (Kd.V_reads' (Kd.V_mono (ok' := (fun k_ => ((P0_ k_ ∨ P1_ k_) ∨ w.heap.size ≤ k_))) (HO_0.out) (fun k_ hk => hk))).2.1 (Kd.V_F (Kd.V_mono (ok' := (fun k_ => ((P0_ k_ ∨ P1_ k_) ∨ w.heap.size ≤ k_))) (HO_0.out) (fun k_ hk => hk))))) (Reps.one (show Kd.FK (Kd.slice 59 k59) _ _ l1 [.slice A1 l1.length c1] from (Kd.FK_slice_mk (Kd.V_reads' (Kd.V_mono (ok' := (fun k_ => ((P0_ k_ ∨ P1_ k_) ∨ w.heap.size ≤ k_))) (HO_1.out) (fun k_ hk => hk))).2.1 (Kd.V_F (Kd.V_mono (ok' := (fun k_ => ((P0_ k_ ∨ P1_ k_) ∨ w.heap.size ≤ k_))) (HO_1.out) (fun k_ hk => hk))))) (Reps.none _ _)))); intro v104 w14 ho15 hb hg_ hnew_; clear hg_ hnew_; (first | rw [← Ny103.out] at ho15 | (simp only [Int.reduceToNat] at ho15; rw [← Ny103.out] at ho15)); replace HO_0 := sA (Kd.V_elder' (by (with_reducible repeat (first | apply Kd.V_alloc | apply Kd.V_drewN | apply Kd.V_drew)); exact HO_0.out) (Kd.N_base ho15) hb); replace HO_1 := sA (Kd.V_elder' (by (with_reducible repeat (first | apply Kd.V_alloc | apply Kd.V_drewN | apply Kd.V_drew)); exact HO_1.out) (Kd.N_base ho15) hb); have HO105 := sA (Kd.N_lower ho15 (below_size sH)); replace HB := sA (below_step sH hb); clear hb ho15; obtain ⟨Ao16, co16, eo16⟩ := Kd.N_slice HO105.out; subst eo16) | ((with_reducible refine gate_callee (f := 68) rfl ?_); refine goesL_ (some 17) rfl rfl Try.func68 (by kernel_rfl) rfl #[.slice Ao16 y103.length co16] rfl sG ?_; (with_reducible refine (impl_Span_68.calls _ _ y103 t106 _ ?side1 ?side2 A11.out).mono ?_); (case side1 => exact sK (Kd.N_reads' HO105.out).2.2); (case side2 => exact (Kd.N_reads' HO105.out).2.1); rintro e w17 ⟨v107, rfl, ho0, hb⟩; refine ⟨_, rfl, ?_⟩; replace HO_0 := sA (Kd.V_elder' (by (with_reducible repeat (first | apply Kd.V_alloc | apply Kd.V_drewN | apply Kd.V_drew)); exact HO_0.out) (Kd.R_base ho0) hb); replace HO_1 := sA (Kd.V_elder' (by (with_reducible repeat (first | apply Kd.V_alloc | apply Kd.V_drewN | apply Kd.V_drew)); exact HO_1.out) (Kd.R_base ho0) hb); replace HO105 := sA (Kd.N_elder' (by (with_reducible repeat (first | apply Kd.N_alloc | apply Kd.N_drewN | apply Kd.N_drew)); exact HO105.out) (Kd.R_base ho0) hb); have HO108 := sA (Kd.R_lower (Kd.R_newM (M := fun k_ => (w.heap.size ≤ k_)) ho0 (below_size sH) (fun k_ h_ => h_)) (below_size sH)); replace HB := sA (below_step sH hb); (try clear hb); (try clear hb2); (try clear hk); (try clear hi); (try clear ho0); obtain ⟨Ao18, co18, eo18⟩ := Kd.R_slice HO108.out; subst eo18) | ((with_reducible refine gate_callee (f := 58) rfl ?_); refine goesL_ (some 18) rfl rfl Try.func58 (by kernel_rfl) rfl #[.slice Ao18 t106.length co18] rfl sG ?_; (with_reducible refine (impl_joined.calls kj2 _ _ t106 t109 _ ?side1 ?side2 A12.out).mono ?_); (case side1 => exact sK (Kd.R_reads' HO108.out).2.2); (case side2 => exact (Kd.R_reads' HO108.out).2.1); rintro e w19 ⟨v110, rfl, ho0, hb⟩; refine ⟨_, rfl, ?_⟩; replace HO_0 := sA (Kd.V_elder' (by (with_reducible repeat (first | apply Kd.V_alloc | apply Kd.V_drewN | apply Kd.V_drew)); exact HO_0.out) (Kd.R_base ho0) hb); replace HO_1 := sA (Kd.V_elder' (by (with_reducible repeat (first | apply Kd.V_alloc | apply Kd.V_drewN | apply Kd.V_drew)); exact HO_1.out) (Kd.R_base ho0) hb); replace HO105 := sA (Kd.N_elder' (by (with_reducible repeat (first | apply Kd.N_alloc | apply Kd.N_drewN | apply Kd.N_drew)); exact HO105.out) (Kd.R_base ho0) hb); have HO111 := sA (Kd.R_lower (Kd.R_new' (Kd.R_newM (M := fun k_ => (w.heap.size ≤ k_)) ho0 (below_size sH) (fun k_ h_ => h_)) (Kd.R_lt (sR HO108.out))) (below_size sH)); replace HO108 := sA (Kd.R_elder' (sR HO108.out) (Kd.R_base ho0) hb); replace HB := sA (below_step sH hb); (try clear hb); (try clear hb2); (try clear hk); (try clear hi); (try clear ho0); obtain ⟨Ao20, co20, eo20⟩ := Kd.R_slice HO111.out; subst eo20) | ((with_reducible refine gate_callee (f := 57) rfl ?_); refine goesL_ (some 19) rfl rfl Try.func57 (by kernel_rfl) rfl #[.slice Ao20 t109.length co20] rfl sG ?_; (with_reducible refine (impl_few.calls (fun k_ => some k_ = (.slice Ao20 t109.length co20 : Value).ownBlock) (.slice Ao20 t109.length co20) t109 t112 t115 w _ ?side1 ?side2 A13.out).mono ?_); (case side1 => repeat (first | (with_reducible first | exact HB.out | apply sLA | apply sLN | apply sLD) | exact HB.out)); (case side2 => exact Kd.R_tight rfl HO111.out); rintro e w21 ⟨v113, rfl, ho0, hb, hkp⟩; refine ⟨_, rfl, ?_⟩; replace HO_0 := sA (Kd.V_mono (ok' := fun k_ => ((P0_ k_ ∨ P1_ k_) ∨ w.heap.size ≤ k_) ∧ some k_ ≠ (.slice Ao16 y103.length co16 : Value).ownBlock ∧ some k_ ≠ (.slice Ao18 t106.length co18 : Value).ownBlock ∧ some k_ ≠ (v113 : Value).ownBlock) (Kd.V_keptB (HO_0.out) hkp (fun k_ hk_ hs_ => (hk_.2) hs_)) (fun k_ hk_ => ⟨hk_.1.1.1.1, hk_.1.1.1.2, hk_.1.1.2, fun e_ => Or.elim (ho0.1 k_ e_.symm) (fun hs_ => hk_.2.1 hs_) (fun hn_ => Nat.not_le.2 hk_.2.2 hn_)⟩)); replace HO_1 := sA (Kd.V_mono (ok' := fun k_ => ((P0_ k_ ∨ P1_ k_) ∨ w.heap.size ≤ k_) ∧ some k_ ≠ (.slice Ao16 y103.length co16 : Value).ownBlock ∧ some k_ ≠ (.slice Ao18 t106.length co18 : Value).ownBlock ∧ some k_ ≠ (v113 : Value).ownBlock) (Kd.V_keptB (HO_1.out) hkp (fun k_ hk_ hs_ => (hk_.2) hs_)) (fun k_ hk_ => ⟨hk_.1.1.1.1, hk_.1.1.1.2, hk_.1.1.2, fun e_ => Or.elim (ho0.1 k_ e_.symm) (fun hs_ => hk_.2.1 hs_) (fun hn_ => Nat.not_le.2 hk_.2.2 hn_)⟩)); replace HO105 := sA (Kd.N_mono (ok' := fun k_ => ((P0_ k_ ∨ P1_ k_) ∨ w.heap.size ≤ k_) ∧ some k_ ≠ (.slice Ao18 t106.length co18 : Value).ownBlock ∧ some k_ ≠ (v113 : Value).ownBlock) (Kd.N_keptB (HO105.out) hkp (fun k_ hk_ hs_ => (hk_.2) hs_)) (fun k_ hk_ => ⟨hk_.1.1.1, hk_.1.1.2, fun e_ => Or.elim (ho0.1 k_ e_.symm) (fun hs_ => hk_.2.1 hs_) (fun hn_ => Nat.not_le.2 hk_.2.2 hn_)⟩)); have HO114 := sA (Kd.R_mono (ok' := fun k_ => (w.heap.size ≤ k_) ∧ some k_ ≠ (.slice Ao18 t106.length co18 : Value).ownBlock) ho0 (fun k_ hk_ => ⟨Or.elim hk_ (fun hs_ => (HO111.out.1 k_ (hs_).symm).1.1) (fun hn_ => (Nat.le_trans (below_size sH) hn_)), Or.elim hk_ (fun hs_ => fun e_ => (((HO108.out).1 k_ e_.symm).2) hs_) (fun hn_ => (Kd.fresh' (Kd.R_lt (sR HO108.out)) k_ hn_))⟩)); replace HO108 := sA (Kd.R_mono (ok' := fun k_ => (w.heap.size ≤ k_) ∧ some k_ ≠ (v113 : Value).ownBlock) (Kd.R_keptB (HO108.out) hkp (fun k_ hk_ hs_ => (hk_.2) hs_)) (fun k_ hk_ => ⟨hk_.1.1.1, fun e_ => Or.elim (ho0.1 k_ e_.symm) (fun hs_ => hk_.2.1 hs_) (fun hn_ => Nat.not_le.2 hk_.2.2 hn_)⟩)); replace HB := sA (hb); clear HO111; (try clear hb); (try clear hkp); (try clear ho0)))
    go_ret2
    exact ⟨_, by first | rfl | (simp [errW_none, errW_some] <;> rfl) | (simp [*, errW_none, errW_some] <;> rfl), by (with_reducible repeat (first | apply Kd.R_alloc | apply Kd.R_drewN | apply Kd.R_drew)); exact Kd.R_mono HO114.out (fun _ hk => hk.1), by repeat (first | (with_reducible first | exact HB.out | apply sLA | apply sLN | apply sLD) | exact HB.out)⟩

end Go.Proofs.Ytligcknlmbgbiaa.P

namespace Go.Proofs.Ytligcknlmbgbiaa.P
open Go.RowKit Go.Proofs.YtligcknlmbgbiaaW.PrintWords Go.Proofs.YtligcknlmbgbiaaW.PrintLast Go.Proofs.YtligcknlmbgbiaaW.PrintMore
attribute [local go_sem] max2_int min2_int max_two min_two max_three min_three max_four min_four
set_option linter.unusedVariables false
set_option linter.unusedSimpArgs false

/-! ### slices_DeleteFunc_int_int: function 46 (by hand) -/
open Go.Shelf
def idxFD (p : Int → Bool) : List Int → Int → Int
  | [], _ => -1
  | x :: l, i => if p x then i else idxFD p l (i + 1)
theorem idxFD_spec (p : Int → Bool) (l : List Int) : ∀ i : Nat, (idxFD p l i = -1 ∧ l.filter (fun x => !p x) = l) ∨ ∃ k, k < l.length ∧ idxFD p l i = ((i + k : Nat) : Int) ∧ (l.take (k + 1)).filter (fun x => !p x) = l.take k := by
  induction l with
  | nil => intro i; exact .inl ⟨rfl, rfl⟩
  | cons x l ih =>
    intro i
    unfold idxFD
    cases hp : p x with
    | true => exact .inr ⟨0, by simp, by simp, by simp [hp]⟩
    | false =>
      rw [if_neg (by simp)]
      rcases ih (i + 1) with ⟨e, h⟩ | ⟨k, hk, e, h⟩
      · exact .inl ⟨by simpa using e, by simp [hp, h]⟩
      · refine .inr ⟨k + 1, by simpa using hk, ?_, ?_⟩
        · rw [show ((i : Int) + 1) = ((i + 1 : Nat) : Int) by omega, e]
          congr 1
          omega
        · rw [List.take_succ_cons, List.filter_cons]
          simp [hp, h]
set_option maxHeartbeats 2000000 in
theorem indexFuncD (g : Nat) (lb : Array Value) (p : Int → Bool) (eg : ∀ args w, (callFunc g args).run Try.prog w = .ok (.enter g args) w) (A0 : Option Addr) (c0 : Nat) (l0 : List Int) (w : World)
  (hp : ∀ (W : World) (x : Int), Below w.heap.size w W → Calls Try.prog g (#[.int .i64 x] ++ lb) W fun e w' => e = .returned (.bool (p x)) ∧ Below w.heap.size w w') (hr0 : Kd.C (Kd.int .i64) w A0 l0.length l0) (hc0 : l0.length ≤ c0) :
  Calls Try.prog 71 #[.slice A0 l0.length c0, .func (.func g) #[] lb] w fun e w' => e = .returned (.int .i64 (idxFD p l0 0)) ∧ Below w.heap.size w w' := by
 have hn : l0.length ≤ 9223372036854775807 := hr0.2.1
 have HR := sA hr0
 have HP := sA hp
 clear hp hr0
 go_enter Try.func71, Try.ntmps71
 go_wp2
 go_loopg [5, 8] l0.length (fun gg _ s8 wr => ∃ kk : Nat, kk ≤ l0.length ∧ l0.length - kk ≤ gg ∧ s8 = .int .i64 kk ∧ Aside0 (Below w.heap.size w wr) ∧ Aside0 (idxFD p l0 0 = idxFD p (l0.drop kk) kk))
 case atStart => exact ⟨0, Nat.zero_le _, by omega, rfl, ⟨Below.refl _ w⟩, ⟨by simp⟩⟩
 case round =>
  obtain ⟨kk, hkk, hg, rfl, HD, HE⟩ := hrel
  by_cases hlt : kk < l0.length
  ·have hltz : (kk : Int) < (l0.length : Int) := by omega
   obtain ⟨ad, e, hx⟩ := Kd.at_int HR.out (kk : Int) (by omega) hltz
   cases e
   rw [Int.toNat_natCast] at hx
   replace hx := (HD.out.cell (World.block_lt_of_cell? w _ hx)).trans hx
   have hcall : Calls Try.prog g (#[.int .i64 (rd l0 kk)] ++ lb) wr fun e w' => e = .returned (.bool (p (rd l0 kk))) ∧ Below w.heap.size w w' := HP.out _ _ HD.out
   have hd : l0.drop kk = rd l0 kk :: l0.drop (kk + 1) := by
    rw [List.drop_eq_getElem_cons hlt]
    simp [rd, List.getD_eq_getElem?_getD, List.getElem?_eq_getElem hlt]
   have HS := sA (show idxFD p l0 0 = if p (rd l0 kk) then (kk : Int) else idxFD p (l0.drop (kk + 1)) ((kk : Int) + 1) by rw [HE.out, hd]; rfl)
   clear hd HE HD
   generalize rd l0 (kk : Int) = y at hx hcall HS
   cases hq : p y with
   | true =>
    rw [hq] at hcall HS
    have HF := sA hcall
    clear hcall hq
    go_wp2_with (go_at_fn g; refine HF.out.mono ?_; rintro e w' ⟨rfl, hb⟩)
    go_ret
    exact ⟨by rw [HS.out]; rfl, hb⟩
   | false =>
    rw [hq] at hcall HS
    have HF := sA hcall
    clear hcall hq
    go_wp2_with (go_at_fn g; refine HF.out.mono ?_; rintro e w' ⟨rfl, hb⟩; have HB := sA hb; clear hb)
    go_roundg (l0.length - (kk + 1))
    case measure => omega
    case rel => exact ⟨kk + 1, by omega, by omega, by go_num, HB, ⟨by rw [HS.out]; rfl⟩⟩
  ·have hltz : ¬ (kk : Int) < (l0.length : Int) := by omega
   have hk : kk = l0.length := by omega
   go_wp2
   go_ret
   refine ⟨?_, HD.out⟩
   rw [HE.out, hk]
   simp [idxFD]
theorem take_set_le (l : List Int) (k : Nat) (x : Int) : (l.set k x).take k = l.take k := by
 apply List.ext_getElem?
 intro j
 by_cases hj : j < k
 ·rw [List.getElem?_take_of_lt hj, List.getElem?_take_of_lt hj, List.getElem?_set_ne (by omega)]
 ·rw [List.getElem?_take_eq_none (by omega), List.getElem?_take_eq_none (by omega)]
theorem clear_row {w0 w : World} {S ok : Nat → Prop} {e g n cap : Nat} (hg : w0.heap.size ≤ g) (hS : S g) : ∀ (m k : Nat) (W : World) (dk : List Int), Kd.R (Kd.int .i64) e W w0.heap.size ok (.slice (some ⟨g, 0, none⟩) n cap) dk → Below w0.heap.size w0 W → Kept w W S →
  ∃ dk' : List Int, Kd.R (Kd.int .i64) e (W.setCells g k (List.replicate m (.int .i64 0))) w0.heap.size ok (.slice (some ⟨g, 0, none⟩) n cap) dk' ∧ dk'.length = dk.length ∧ dk'.take k = dk.take k ∧ Below w0.heap.size w0 (W.setCells g k (List.replicate m (.int .i64 0))) ∧ Kept w (W.setCells g k (List.replicate m (.int .i64 0))) S := by
 intro m
 induction m with
 | zero => intro k W dk h hB hK; exact ⟨dk, h, rfl, rfl, hB, hK⟩
 | succ m ih =>
  intro k W dk h hB hK
  have HP := Kd.R_putg h (k : Int) 0
  rw [Int.toNat_natCast] at HP
  obtain ⟨dk', h1, h2, h3, h4, h5⟩ := ih (k + 1) _ _ HP.1 (pw_below_grown hB (some g) hB.size HP.2 (fun q hq => by cases hq; exact hg)) (Kept.of_grown HP.2 hK (fun q hq => .inl (by cases hq; exact hS)))
  refine ⟨dk', h1, by simpa using h2, ?_, h4, h5⟩
  have := congrArg (List.take k) h3
  rwa [List.take_take, List.take_take, Nat.min_eq_left (by omega), take_set_le] at this
set_option maxHeartbeats 2000000 in
/-- The closure: whether the spans in the box have a letter. -/
theorem del_pred (B : Nat) (A1 : Option Addr) (c1 : Nat) (l1 : List S59) (x : Int) (W : World) (hcell : W.cell? ⟨B, 0, none⟩ = some (.slice A1 l1.length c1)) (hC : Kd.C k59 W A1 l1.length l1) (hc : l1.length ≤ c1) :
  Calls Try.prog 47 #[.int .i64 x, .pointer (some ⟨B, 0, none⟩)] W fun e w' => e = .returned (.bool (l1.any (inSpan x))) ∧ Below W.heap.size W w' := by
 have HC := sA hC
 clear hC
 have HQ := sA (fun W2 (hb2 : Below W.heap.size W W2) => (impl_has.calls A1 c1 l1 x _ W2 (Kd.C_below HC.out hb2) hc rfl).mono (R' := fun e w' => e = .returned (.bool (l1.any (inSpan x))) ∧ Below W.heap.size W w') (by rintro e w' ⟨rfl, h⟩; exact ⟨rfl, below_step hb2 h⟩))
 generalize l1.any (inSpan x) = b at HQ ⊢
 generalize l1.length = n1 at HQ hcell
 go_enter Try.func47, Try.ntmps47
 go_wp2_with (go_at_call 45; refine (HQ.out _ (by repeat (first | exact Below.refl _ _ | apply below_alloc | apply pw_below_drewN))).mono ?_; rintro e w' ⟨rfl, hb⟩; have HB := sA hb; clear hb)
 go_ret
 exact ⟨rfl, HB.out⟩
/-- slices.DeleteFunc at []int: what the spans heard have is left out. -/
def slices_DeleteFunc_int_int.f (l : List Int) (m : List S59) : Option (List Int) := if l.length ≤ 9223372036854775807 then some (l.filter fun x => !m.any (inSpan x)) else none
set_option maxHeartbeats 4000000 in
set_option maxRecDepth 1000000 in
theorem slices_DeleteFunc_int_int.core (P0_ : Nat → Prop) (g cap : Nat) (l0 : List Int) (w0 w : World) (hB : Below w0.heap.size w0 w) (ho0 : Kd.R (Kd.int .i64) 3 w w0.heap.size P0_ (.slice (some ⟨g, 0, none⟩) l0.length cap) l0) (hlen : 0 < l0.length) (hg0 : P0_ g) (hgw : w0.heap.size ≤ g) (fg : Nat) (lb : Array Value) (p : Int → Bool) (eg : ∀ args w, (callFunc fg args).run Try.prog w = .ok (.enter fg args) w)
  (hp : ∀ (W : World) (x : Int), Kept w W (fun k_ => P0_ k_) → Calls Try.prog fg (#[.int .i64 x] ++ lb) W fun e w' => e = .returned (.bool (p x)) ∧ Below W.heap.size W w') :
  Calls Try.prog 46 #[.slice (some ⟨g, 0, none⟩) l0.length cap, .func (.func fg) #[] lb] w fun e w' => ∃ v0_ : Value, e = .returned (v0_) ∧ Kd.R (Kd.int .i64) 3 w' w0.heap.size P0_ v0_ (l0.filter fun x => !p x) ∧ Below w0.heap.size w0 w' ∧ Kept w w' (fun k_ => P0_ k_) := by
 have HIX := sA (indexFuncD fg lb p eg (some ⟨g, 0, none⟩) cap l0 w (fun W x hb => (hp W x (Kept.of_below hb _)).mono (by rintro e w' ⟨rfl, h⟩; exact ⟨rfl, below_step hb h⟩)) (Kd.R_reads' ho0).2.2 (Kd.R_reads' ho0).2.1)
 have hn : l0.length ≤ 9223372036854775807 := (Kd.R_reads' ho0).2.2.2.1
 have hcap : l0.length ≤ cap := (Kd.R_reads' ho0).2.1
 have HP := sA hp
 have HR := sA ho0
 have HB := sA hB
 have HGW := sA hgw
 have HG0 := sA hg0
 clear hp ho0 hB hgw hg0
 rcases idxFD_spec p l0 0 with ⟨e1, hf⟩ | ⟨k0, hk0, e1, hf⟩
 ·rw [show idxFD p l0 0 = -1 from e1] at HIX
  have HF := sA hf
  clear hf e1
  go_enter Try.func46, Try.ntmps46
  go_wp2_with (go_at_call 71; refine HIX.out.mono ?_; rintro e w' ⟨rfl, hb⟩; have HB2 := sA hb; clear hb)
  go_ret
  exact ⟨_, rfl, by rw [HF.out]; exact Kd.R_below HR.out HB2.out, below_step HB.out HB2.out, Kept.of_below HB2.out _⟩
 ·rw [show idxFD p l0 0 = (k0 : Int) from by rw [show (0 : Int) = ((0 : Nat) : Int) from rfl, e1]; simp] at HIX
  have HF := sA hf
  have hne1 : ((k0 : Int) == -1) = false := beq_eq_false_iff_ne.2 (by omega)
  clear hf e1
  go_enter Try.func46, Try.ntmps46
  go_wp2_with (go_at_call 71; refine HIX.out.mono ?_; rintro e w' ⟨rfl, hb⟩; have HB2 := sA hb; clear hb)
  go_loopg [5, 6, 7] l0.length (fun gg s5 s6 _ wr => ∃ (i j : Nat) (dk : List Int), s5 = .int .i64 i ∧ s6 = .int .i64 j ∧ i < j ∧ j ≤ l0.length ∧ l0.length - j ≤ gg ∧ dk.length = l0.length ∧ Aside0 (dk.take i = (l0.take j).filter (fun x => !p x)) ∧ Aside0 (dk.drop j = l0.drop j) ∧ Aside0 (Kd.R (Kd.int .i64) 3 wr w0.heap.size P0_ (.slice (some ⟨g, 0, none⟩) l0.length cap) dk) ∧ Aside0 (Below w0.heap.size w0 wr) ∧ Aside0 (Kept w wr (fun k_ => P0_ k_)))
  case atStart => exact ⟨k0, k0 + 1, l0, rfl, by go_num, by omega, by omega, by omega, rfl, ⟨HF.out.symm⟩, ⟨rfl⟩, ⟨Kd.R_below HR.out HB2.out⟩, ⟨below_step HB.out HB2.out⟩, ⟨Kept.of_below HB2.out _⟩⟩
  case round =>
   obtain ⟨i, j, dk, rfl, rfl, hij, hjn, hgg, hdk, HT, HD, HR2, HB3, HK3⟩ := hrel
   by_cases hlt : j < l0.length
   ·have hltz : (j : Int) < (l0.length : Int) := by omega
    obtain ⟨hxj, _⟩ := Kd.R_celln 0 HR2.out (j : Int) (by omega) (by omega)
    obtain ⟨hxi, hfi⟩ := Kd.R_celln 0 HR2.out (i : Int) (by omega) (by omega)
    rw [Int.toNat_natCast] at hxj hxi hfi
    have hvj : rdOf 0 dk (j : Int) = rdOf 0 l0 (j : Int) := by
     have h1 : (dk.drop j)[0]? = (l0.drop j)[0]? := by rw [HD.out]
     rw [List.getElem?_drop, List.getElem?_drop, Nat.add_zero] at h1
     simp [rdOf, List.getD_eq_getElem?_getD, h1]
    have hdj : l0.take (j + 1) = l0.take j ++ [rdOf 0 l0 (j : Int)] := by
     rw [List.take_succ_eq_append_getElem hlt]
     simp [rdOf, List.getD_eq_getElem?_getD, List.getElem?_eq_getElem hlt]
    have HDJ := sA hdj
    rw [hvj] at hxj
    have HCL := sA (HP.out wr (rdOf 0 l0 (j : Int)) HK3.out)
    clear hdj hvj
    generalize rdOf 0 l0 (j : Int) = u at hxj HCL HDJ
    generalize rdOf 0 dk (i : Int) = old at hxi
    have hgr : g < wr.heap.size := World.block_lt_of_cell? wr _ hxi
    cases hq : p u with
    | true =>
     rw [hq] at HCL
     have HQ := sA hq
     clear hq
     go_wp2_with (go_at_fn fg; refine HCL.out.mono ?_; rintro e w' ⟨rfl, hb⟩; have HB4 := sA hb; clear hb)
     go_roundg (l0.length - (j + 1))
     case measure => omega
     case rel =>
      refine ⟨i, j + 1, dk, rfl, by go_num, by omega, by omega, Nat.le_refl _, hdk, ⟨?_⟩, ⟨?_⟩, ⟨Kd.R_below HR2.out HB4.out⟩, ⟨below_step HB3.out HB4.out⟩, ⟨HK3.out.below HB4.out⟩⟩
      ·rw [HDJ.out, List.filter_append, HT.out]
       simp [HQ.out]
      ·rw [← List.drop_drop, HD.out, List.drop_drop]
    | false =>
     rw [hq] at HCL
     have HQ := sA hq
     clear hq
     go_wp2_with (go_at_fn fg; refine HCL.out.mono ?_; rintro e w' ⟨rfl, hb⟩; have HB4 := sA hb; have hxi2 := (hb.cell (p := ⟨g, i, none⟩) hgr).trans hxi; have hfi2 := (hb.frozen (p := ⟨g, i, none⟩) hgr).trans hfi; clear hb)
     go_roundg (l0.length - (j + 1))
     case measure => omega
     case rel =>
      have HP2 := Kd.R_putg (Kd.R_below HR2.out HB4.out) (i : Int) u
      rw [Int.toNat_natCast] at HP2
      refine ⟨i + 1, j + 1, dk.set i u, by go_num, by go_num, by omega, by omega, Nat.le_refl _, by simpa using hdk, ⟨?_⟩, ⟨?_⟩, ⟨HP2.1⟩, ⟨pw_below_grown (below_step HB3.out HB4.out) (some g) (below_step HB3.out HB4.out).size HP2.2 (fun q hq => by cases hq; exact HGW.out)⟩, ⟨Kept.of_grown HP2.2 (HK3.out.below HB4.out) (fun q hq => .inl (by cases hq; exact HG0.out))⟩⟩
      ·rw [HDJ.out, List.filter_append, ← HT.out, List.take_succ_eq_append_getElem (by simp; omega), take_set_le]
       simp [HQ.out]
      ·rw [List.drop_set_of_lt (by omega), ← List.drop_drop, HD.out, List.drop_drop]
   ·obtain rfl : j = l0.length := by omega
    have hltz : ¬ (l0.length : Int) < (l0.length : Int) := by omega
    have hcl : ∀ ty, (Builtin.clear_ #[23] ty #[.slice (some ⟨g, 0 + i, none⟩) (l0.length - i) (cap - i)]).run Try.prog wr = .ok (.tuple #[]) (wr.setCells g (0 + i) (List.replicate (l0.length - i) (.int .i64 0))) :=
     fun ty => Lib.run_clear_slice wr _ _ ty _ Try.underlying23 Try.zeroValue3 rfl rfl g (0 + i) _ _ (by omega) (fun t ht => by
      obtain ⟨h1, _⟩ := Kd.R_celln 0 HR2.out ((i + t : Nat) : Int) (by omega) (by omega)
      rw [Int.toNat_natCast] at h1
      rw [show 0 + i + t = i + t by omega, h1]
      rfl) (fun t ht => by
      obtain ⟨_, h1⟩ := Kd.R_celln 0 HR2.out ((i + t : Nat) : Int) (by omega) (by omega)
      rw [Int.toNat_natCast] at h1
      rw [show 0 + i + t = i + t by omega, h1])
    obtain ⟨dk', h1, h2, h3, h4, h5⟩ := clear_row HGW.out HG0.out (l0.length - i) i wr dk HR2.out HB3.out HK3.out
    have hT := Kd.R_take (m := i) h1 (by omega)
    rw [h3, HT.out, List.take_of_length_le (Nat.le_refl _)] at hT
    have HT2 := sA hT
    have H4 := sA h4
    have H5 := sA h5
    clear h1 h2 h3 h4 h5 hT
    rw [Nat.zero_add] at hcl
    have hic : i ≤ cap := by omega
    have hne2 : ¬ cap = i := by omega
    go_wp2
    go_ret
    exact ⟨_, rfl, HT2.out, H4.out, H5.out⟩
theorem slices_DeleteFunc_int_int.calls (P0_ : Nat → Prop) (u9000_ : Value) (l0 : List Int) (A1 : Option Addr) (c1 : Nat) (l1 : List S59) (r : List Int) (w0 w : World) (hB : Below w0.heap.size w0 w) (ho0 : Kd.R (Kd.int .i64) 3 w w0.heap.size P0_ u9000_ l0) (hr1 : ∀ W_, Kept w W_ (fun k_ => P0_ k_) → Kd.C k59 W_ A1 l1.length l1) (hc1 : l1.length ≤ c1) (h : slices_DeleteFunc_int_int.f l0 l1 = some r)
  {B : Nat} (hbx : ∀ W_, Kept w W_ (fun k_ => P0_ k_) → W_.cell? ⟨B, 0, none⟩ = some (.slice A1 l1.length c1)) :
  Calls Try.prog 46 #[u9000_, .func (.func 47) #[] #[.pointer (some ⟨B, 0, none⟩)]] w fun e w' => ∃ v0_ : Value, e = .returned (v0_) ∧ Kd.R (Kd.int .i64) 3 w' w0.heap.size (fun k_ => (P0_ k_ ∨ w.heap.size ≤ k_)) v0_ r ∧ Below w0.heap.size w0 w' ∧ Kept w w' (fun k_ => P0_ k_) := by
 unfold slices_DeleteFunc_int_int.f at h
 by_cases hl : l0.length ≤ 9223372036854775807
 ·rw [if_pos hl] at h
  obtain rfl := Option.some.inj h
  have eg : ∀ args w, (callFunc 47 args).run Try.prog w = .ok (.enter 47 args) w := Go.Proofs.enters_of Try.func47 (by kernel_rfl) rfl
  rcases R_parts ho0 with ⟨rfl, rfl⟩ | ⟨g, cap, cur, inner, rfl, hok, hg, hh, h1, h2, h3, h4, hr⟩
  ·have HIX := sA (indexFuncD 47 #[.pointer (some ⟨B, 0, none⟩)] (fun x => l1.any (inSpan x)) eg none 0 [] w (fun W x hb => (del_pred B A1 c1 l1 x W (hbx W (Kept.of_below hb _)) (hr1 W (Kept.of_below hb _)) hc1).mono (by rintro e w' ⟨rfl, h⟩; exact ⟨rfl, below_step hb h⟩)) (Kd.C_nil _ _) (by simp))
   have HB := sA hB
   clear hB hr1 hbx ho0
   go_enter Try.func46, Try.ntmps46
   go_wp2_with (go_at_call 71; refine HIX.out.mono ?_; rintro e w' ⟨rfl, hb⟩; have HB2 := sA hb; clear hb)
   go_ret
   exact ⟨_, rfl, by simpa using Kd.R_nil (Kd.int .i64) 3 _ _ _, below_step HB.out HB2.out, Kept.of_below HB2.out _⟩
  ·by_cases hz : 0 < l0.length
   ·refine (slices_DeleteFunc_int_int.core P0_ g cap l0 w0 w hB ho0 hz hok hg 47 #[.pointer (some ⟨B, 0, none⟩)] (fun x => l1.any (inSpan x)) eg (fun W x hk => del_pred B A1 c1 l1 x W (hbx W hk) (hr1 W hk) hc1)).mono ?_
    rintro e w' ⟨v, rfl, hR, h5, h6⟩
    exact ⟨v, rfl, Kd.R_mono hR (fun k hk => .inl hk), h5, h6⟩
   ·obtain rfl : l0 = [] := List.length_eq_zero_iff.1 (by omega)
    have HIX := sA (indexFuncD 47 #[.pointer (some ⟨B, 0, none⟩)] (fun x => l1.any (inSpan x)) eg (some ⟨g, 0, none⟩) cap [] w (fun W x hb => (del_pred B A1 c1 l1 x W (hbx W (Kept.of_below hb _)) (hr1 W (Kept.of_below hb _)) hc1).mono (by rintro e w' ⟨rfl, h⟩; exact ⟨rfl, below_step hb h⟩)) (Kd.R_reads' ho0).2.2 (Kd.R_reads' ho0).2.1)
    have HB := sA hB
    have HR := sA ho0
    clear hB hr1 hbx ho0 hr hh
    go_enter Try.func46, Try.ntmps46
    go_wp2_with (go_at_call 71; refine HIX.out.mono ?_; rintro e w' ⟨rfl, hb⟩; have HB2 := sA hb; clear hb)
    go_ret
    exact ⟨_, rfl, Kd.R_mono (Kd.R_below HR.out HB2.out) (fun k hk => .inl hk), below_step HB.out HB2.out, Kept.of_below HB2.out _⟩
 ·rw [if_neg hl] at h
  cases h


end Go.Proofs.Ytligcknlmbgbiaa.P

namespace Go.Proofs.Ytligcknlmbgbiaa.P
open Go.RowKit Go.Proofs.YtligcknlmbgbiaaW.PrintWords Go.Proofs.YtligcknlmbgbiaaW.PrintLast Go.Proofs.YtligcknlmbgbiaaW.PrintMore
attribute [local go_sem] max2_int min2_int max_two min_two max_three min_three max_four min_four
set_option linter.unusedVariables false
set_option linter.unusedSimpArgs false

/-! ### slices_Sort_int_int: function 48 (by hand) -/
open Go.Shelf Go.Sort
def slices_Sort_int_int.lay_ren : Go.Shelf.Ren := ⟨fun | 5 => 48 | 8 => 73 | 7 => 72 | 19 => 92 | 20 => 93 | 10 => 83 | 11 => 84 | 12 => 85 | 13 => 86 | 14 => 87 | 15 => 88 | 16 => 89 | 17 => 90 | 18 => 91 | 30 => 95 | 31 => 96 | 32 => 97 | 33 => 98 | 34 => 99 | 35 => 100 | 40 => 109 | n => n, fun | 23 => 23 | 25 => 3 | 3 => 3 | 32 => 84 | 22 => 23 | 0 => 0 | 44 => 101 | 46 => 103 | 4 => 4 | 36 => 93 | 35 => 92 | 41 => 98 | 5 => 5 | 9 => 9 | 53 => 105 | 57 => 109 | 63 => 116 | 64 => 117 | n => n, fun | n => n⟩
theorem slices_Sort_int_int.lay : SlLaysM.n5 Try.prog slices_Sort_int_int.lay_ren := {
  mixed := by kernel_rfl
  f5 := ⟨Try.f48.name, by decide, Try.func48.trans (congrArg some (by kernel_rfl))⟩
  f7 := ⟨Try.f72.name, by decide, Try.func72.trans (congrArg some (by kernel_rfl))⟩
  f8 := Try.func73.trans (congrArg some (by kernel_rfl))
  f10 := ⟨Try.f83.name, by decide, Try.func83.trans (congrArg some (by kernel_rfl))⟩
  f11 := ⟨Try.f84.name, by decide, Try.func84.trans (congrArg some (by kernel_rfl))⟩
  f12 := ⟨Try.f85.name, by decide, Try.func85.trans (congrArg some (by kernel_rfl))⟩
  f13 := ⟨Try.f86.name, by decide, Try.func86.trans (congrArg some (by kernel_rfl))⟩
  f14 := ⟨Try.f87.name, by decide, Try.func87.trans (congrArg some (by kernel_rfl))⟩
  f15 := ⟨Try.f88.name, by decide, Try.func88.trans (congrArg some (by kernel_rfl))⟩
  f16 := ⟨Try.f89.name, by decide, Try.func89.trans (congrArg some (by kernel_rfl))⟩
  f17 := ⟨Try.f90.name, by decide, Try.func90.trans (congrArg some (by kernel_rfl))⟩
  f18 := ⟨Try.f91.name, by decide, Try.func91.trans (congrArg some (by kernel_rfl))⟩
  f19 := Try.func92.trans (congrArg some (by kernel_rfl))
  f20 := Try.func93.trans (congrArg some (by kernel_rfl))
  f30 := ⟨Try.f95.name, by decide, Try.func95.trans (congrArg some (by kernel_rfl))⟩
  f31 := Try.func96.trans (congrArg some (by kernel_rfl))
  f32 := Try.func97.trans (congrArg some (by kernel_rfl))
  f33 := ⟨Try.f98.name, by decide, Try.func98.trans (congrArg some (by kernel_rfl))⟩
  f34 := ⟨Try.f99.name, by decide, Try.func99.trans (congrArg some (by kernel_rfl))⟩
  f35 := ⟨Try.f100.name, by decide, Try.func100.trans (congrArg some (by kernel_rfl))⟩
  f40 := ⟨Try.f109.name, by decide, Try.func109.trans (congrArg some (by kernel_rfl))⟩
  t0 := Try.underlying0
  a0 := Try.isAgg0
  z0 := Try.sizeOf0
  v0 := Try.zeroValue0
  t3 := Try.underlying3
  a3 := Try.isAgg3
  z3 := Try.sizeOf3
  v3 := Try.zeroValue3
  t4 := Try.underlying4
  a4 := Try.isAgg4
  z4 := Try.sizeOf4
  v4 := Try.zeroValue4
  t5 := Try.underlying5
  a5 := Try.isAgg5
  z5 := Try.sizeOf5
  v5 := Try.zeroValue5
  t9 := Try.underlying9
  a9 := Try.isAgg9
  z9 := Try.sizeOf9
  v9 := Try.zeroValue9
  t22 := Try.underlying23
  a22 := Try.isAgg23
  z22 := Try.sizeOf23
  v22 := Try.zeroValue23
  t23 := Try.underlying23
  a23 := Try.isAgg23
  z23 := Try.sizeOf23
  v23 := Try.zeroValue23
  t25 := Try.underlying3
  a25 := Try.isAgg3
  z25 := Try.sizeOf3
  v25 := Try.zeroValue3
  t32 := Try.underlying84
  a32 := Try.isAgg84
  z32 := Try.sizeOf84
  v32 := Try.zeroValue84
  t35 := Try.underlying92
  a35 := Try.isAgg92
  z35 := Try.sizeOf92
  v35 := Try.zeroValue92
  t36 := Try.underlying93
  a36 := Try.isAgg93
  z36 := Try.sizeOf93
  v36 := Try.zeroValue93
  t41 := Try.underlying98
  a41 := Try.isAgg98
  z41 := Try.sizeOf98
  v41 := Try.zeroValue98
  t44 := Try.underlying101
  a44 := Try.isAgg101
  z44 := Try.sizeOf101
  v44 := Try.zeroValue101
  t46 := Try.underlying103
  a46 := Try.isAgg103
  z46 := Try.sizeOf103
  v46 := Try.zeroValue103
  t53 := Try.underlying105
  a53 := Try.isAgg105
  z53 := Try.sizeOf105
  v53 := Try.zeroValue105
  t57 := Try.underlying109
  a57 := Try.isAgg109
  z57 := Try.sizeOf109
  v57 := Try.zeroValue109
  t63 := Try.underlying116
  a63 := Try.isAgg116
  z63 := Try.sizeOf116
  v63 := Try.zeroValue116
  t64 := Try.underlying117
  a64 := Try.isAgg117
  z64 := Try.sizeOf117
  v64 := Try.zeroValue117 }


/-- slices.Sort at []int: the sorted list (a row below 2^62). -/
def slices_Sort_int_int.f (l : List Int) : Option (List Int) := if l.length < 4611686018427387904 then some (l.mergeSort fun x y => decide (x ≤ y)) else none
theorem slices_Sort_int_int.calls (P0_ : Nat → Prop) (u9000_ : Value) (l0 : List Int) (r : List Int) (w0 w : World) (hB : Below w0.heap.size w0 w) (ho0 : Kd.R (Kd.int .i64) 3 w w0.heap.size P0_ u9000_ l0) (h : slices_Sort_int_int.f l0 = some r) :
    Calls Try.prog 48 #[u9000_] w fun e w' => e = .returned (.tuple #[]) ∧ Kd.R (Kd.int .i64) 3 w' w0.heap.size (fun k_ => (P0_ k_ ∨ w.heap.size ≤ k_)) u9000_ r ∧ Below w0.heap.size w0 w' ∧ Kept w w' (fun k_ => P0_ k_) := by
  unfold slices_Sort_int_int.f at h
  by_cases hl : l0.length < 4611686018427387904
  · rw [if_pos hl] at h
    obtain rfl := Option.some.inj h
    rcases R_parts ho0 with ⟨rfl, rfl⟩ | ⟨g, cap, cur, inner, rfl, hok, hg, hh, h1, h2, h3, h4, hr⟩
    · refine (AnyM.slices_Sort_int_none slices_Sort_int_int.lay none 0 w).mono ?_
      rintro e w' ⟨rfl, rfl⟩
      exact ⟨rfl, by simpa using Kd.R_nil (Kd.int .i64) 3 _ _ _, hB, Kept.refl _ _⟩
    · have hz : (Kd.int .i64).sz = 1 := rfl
      have hi := Kd.reps_encs hr
      rw [hi, hz, Nat.mul_one] at h4
      rw [hz] at h3
      refine (AnyM.slices_Sort_int slices_Sort_int_int.lay g 0 cap l0 w (holds_put (Value.int .i64) hh (by simpa [encs] using h4)) (blk_lt hh) hl).mono ?_
      rintro e w' ⟨rfl, n, os, rfl⟩
      have hlen : (l0.mergeSort fun x y => decide (x ≤ y)).length = l0.length := by simp
      refine ⟨rfl, ?_, below_put _ _ hB hg, kept_put _ _ hok⟩
      rw [← hlen]
      exact R_put (Value.int .i64) _ (.inl hok) hg hh (by rw [hlen]; exact h1) h2 h3 (by simp [hz]) (Kd.reps_scalar (enc := Value.int .i64) (l0.mergeSort fun x y => decide (x ≤ y)))
  · rw [if_neg hl] at h
    cases h


end Go.Proofs.Ytligcknlmbgbiaa.P

namespace Go.Proofs.Ytligcknlmbgbiaa.P
open Go.RowKit Go.Proofs.YtligcknlmbgbiaaW.PrintWords Go.Proofs.YtligcknlmbgbiaaW.PrintLast Go.Proofs.YtligcknlmbgbiaaW.PrintMore
attribute [local go_sem] max2_int min2_int max_two min_two max_three min_three max_four min_four
set_option linter.unusedVariables false
set_option linter.unusedSimpArgs false

/-! ### slices_Index_int_int: function 78 -/
def slices_Index_int_int.l0 : Nat → List Int → Int → Int → Int → Option (Int)
  | 0, _, _, _, _ => none
  | k + 1, x0, x1, x7, x8 => if x8 < x7 then (if 0 ≤ x8 then (if x8 < (x0.length : Int) then (if x1 = (rd x0 x8) then (some x8) else (slices_Index_int_int.l0 k x0 x1 x7 (wrap64 (x8 + 1)))) else (none)) else (none)) else (some (-1))
def slices_Index_int_int.f (k : Nat) (l0 : List Int) (a1 : Int) : Option (Int) := slices_Index_int_int.l0 k l0 a1 (l0.length : Int) 0
set_option maxHeartbeats 8000000 in
set_option maxRecDepth 100000 in
theorem slices_Index_int_int.calls (k : Nat) (A0 : Option Addr) (c0 : Nat) (l0 : List Int) (a1 : Int) (r : Int) (w : World) (hr0 : Kd.C (Kd.int .i64) w A0 l0.length l0) (hc0 : l0.length ≤ c0) (h : slices_Index_int_int.f k l0 a1 = some r) :
  Calls Try.prog 78 #[.slice A0 l0.length c0, .int .i64 a1] w fun e w' => e = .returned (.int .i64 r) ∧ Drawn0 w w' := by
 have HR0 := sA hr0
 have HC0 := sA hc0
 clear hr0 hc0
 have H : (slices_Index_int_int.l0 k l0 a1 (l0.length : Int) 0) = some r := h
 clear h
 have H' := sA H
 clear H
 go_enter Try.func78, Try.ntmps78
 go_wp2
 go_loopg [8] k (fun kq v8 w' => ∃ (x8_1 : Int), v8 = .int .i64 x8_1 ∧ Aside0 (slices_Index_int_int.l0 kq l0 a1 (l0.length : Int) x8_1 = some r) ∧ Aside0 (kq ≤ k) ∧ Drawn0 w w')
 case atStart => exact ⟨(0), (by first | rfl | (simp; done) | (simp [*]; done)), H', ⟨Nat.le_refl _⟩, by repeat (first | exact Drawn0.refl _ | apply Drawn0.step)⟩
 case round =>
  clear H'
  try clear p2
  obtain ⟨x8_1, rfl, HA, HK1, ⟨m1, rfl⟩⟩ := hrel
  cases gk with
  | zero => exact absurd HA.out (by simp [slices_Index_int_int.l0])
  | succ k1 =>
   have H := HA.out
   clear HA
   simp only [slices_Index_int_int.l0] at H
   by_cases c3 : x8_1 < (l0.length : Int)
   ·rw [if_pos c3] at H
    have c3b0 : decide (x8_1 < (l0.length : Int)) = true := decide_eq_true c3
    clear c3
    by_cases c4 : 0 ≤ x8_1
    ·rw [if_pos c4] at H
     have c4b0 : decide (0 ≤ x8_1) = true := decide_eq_true c4
     clear c4
     by_cases c5 : x8_1 < (l0.length : Int)
     ·rw [if_pos c5] at H
      have c5b0 : decide (x8_1 < (l0.length : Int)) = true := decide_eq_true c5
      clear c5
      by_cases c6 : a1 = (rd l0 x8_1)
      ·rw [if_pos c6] at H
       have c6b0 : (a1 == (rd l0 x8_1)) = true := beq_iff_eq.mpr c6
       have c6b1 : (a1 != (rd l0 x8_1)) = false := bne_eq_false_iff_eq.mpr c6
       clear c6
       obtain rfl := Option.some.inj H
       have p101 : 0 ≤ (x8_1 : Int) := of_decide_eq_true (by first | (with_reducible assumption) | assumption)
       have q101 : x8_1 < (l0.length : Int) := of_decide_eq_true (by first | (with_reducible assumption) | assumption)
       obtain ⟨ad101, e101, hx101_0⟩ := Kd.at_int HR0.out x8_1 p101 q101
       cases e101
       replace p101 := eq_true p101
       replace q101 := eq_true q101
       go_wp2
       go_ret
       exact ⟨by first | rfl | (simp; done) | (simp [*]; done), by repeat (first | exact Drawn0.refl _ | apply Drawn0.step)⟩
      ·rw [if_neg c6] at H
       have c6b0 : (a1 == (rd l0 x8_1)) = false := beq_eq_false_iff_ne.mpr c6
       have c6b1 : (a1 != (rd l0 x8_1)) = true := bne_iff_ne.mpr c6
       have H' := sA H
       clear H
       have p101 : 0 ≤ (x8_1 : Int) := of_decide_eq_true (by first | (with_reducible assumption) | assumption)
       have q101 : x8_1 < (l0.length : Int) := of_decide_eq_true (by first | (with_reducible assumption) | assumption)
       obtain ⟨ad101, e101, hx101_0⟩ := Kd.at_int HR0.out x8_1 p101 q101
       cases e101
       replace p101 := eq_true p101
       replace q101 := eq_true q101
       go_wp2
       go_roundg k1
       case measure => have := HK1.out; omega
       case rel => exact ⟨(wrap64 (x8_1 + 1)), (by first | rfl | (simp; done) | (simp [*]; done)), H', ⟨by have := HK1.out; omega⟩, by repeat (first | exact Drawn0.refl _ | apply Drawn0.step)⟩
     ·rw [if_neg c5] at H
      exact absurd H (by simp)
    ·rw [if_neg c4] at H
     exact absurd H (by simp)
   ·rw [if_neg c3] at H
    have c3b0 : decide (x8_1 < (l0.length : Int)) = false := decide_eq_false c3
    clear c3
    obtain rfl := Option.some.inj H
    go_wp2
    go_ret
    exact ⟨by first | rfl | (simp; done) | (simp [*]; done), by repeat (first | exact Drawn0.refl _ | apply Drawn0.step)⟩

end Go.Proofs.Ytligcknlmbgbiaa.P

namespace Go.Proofs.Ytligcknlmbgbiaa.P
open Go.RowKit Go.Proofs.YtligcknlmbgbiaaW.PrintWords Go.Proofs.YtligcknlmbgbiaaW.PrintLast Go.Proofs.YtligcknlmbgbiaaW.PrintMore
attribute [local go_sem] max2_int min2_int max_two min_two max_three min_three max_four min_four
set_option linter.unusedVariables false
set_option linter.unusedSimpArgs false

/-! ### slices_Contains_int_int: function 64 -/
def slices_Contains_int_int.f (k : Nat) (l0 : List Int) (a1 : Int) : Option (Bool) := (slices_Index_int_int.f k l0 a1).bind fun t101 => (some (decide (t101 ≥ 0)))
set_option maxHeartbeats 8000000 in
set_option maxRecDepth 100000 in
theorem slices_Contains_int_int.calls (k : Nat) (A0 : Option Addr) (c0 : Nat) (l0 : List Int) (a1 : Int) (r : Bool) (w : World) (hr0 : Kd.C (Kd.int .i64) w A0 l0.length l0) (hc0 : l0.length ≤ c0) (h : slices_Contains_int_int.f k l0 a1 = some r) :
  Calls Try.prog 64 #[.slice A0 l0.length c0, .int .i64 a1] w fun e w' => e = .returned (.bool r) ∧ Drawn0 w w' := by
 have HR0 := sA hr0
 have HC0 := sA hc0
 clear hr0 hc0
 have H : ((slices_Index_int_int.f k l0 a1).bind fun t101 => (some (decide (t101 ≥ 0)))) = some r := h
 clear h
 obtain ⟨t101, A3, H⟩ := sN H
 obtain rfl := Option.some.inj H
 go_enter Try.func64, Try.ntmps64
 go_wp2_with (first | ((with_reducible refine gate_callee (f := 78) rfl ?_); refine goesL_ (some 7) rfl rfl Try.func78 (by kernel_rfl) rfl #[.slice A0 l0.length c0, .int .i64 a1] rfl sG ?_; (with_reducible refine (slices_Index_int_int.calls k _ _ l0 a1 t101 _ ?side1 ?side2 A3.out).mono ?_); (case side1 => repeat (first | exact HR0.out | (with_reducible refine Kd.C_alloc ?_ _) | (with_reducible refine Kd.C_drewN ?_ _) | (with_reducible refine Kd.C_drew ?_))); (case side2 => exact HC0.out); rintro e w' ⟨rfl, ⟨nd, rfl⟩⟩; refine ⟨_, rfl, ?_⟩))
 go_ret
 exact ⟨by first | rfl | (simp; done) | (simp [*]; done), by repeat (first | exact Drawn0.refl _ | apply Drawn0.step)⟩

end Go.Proofs.Ytligcknlmbgbiaa.P

namespace Go.Proofs.Ytligcknlmbgbiaa.P
open Go.RowKit Go.Proofs.YtligcknlmbgbiaaW.PrintWords Go.Proofs.YtligcknlmbgbiaaW.PrintLast Go.Proofs.YtligcknlmbgbiaaW.PrintMore
attribute [local go_sem] max2_int min2_int max_two min_two max_three min_three max_four min_four
set_option linter.unusedVariables false
set_option linter.unusedSimpArgs false

/-- A state of type 31 at block g of W; what its slices lead to came in by w0. -/
def IsS31 (A1 : Option Addr) (c1 : Nat) (A2 : Option Addr) (c2 : Nat) (w0 W : World) (g : Nat) (f0 : Int) (f1 : List (S59)) (f2 : List Int) : Prop := W.heap[g]? = some (.cells #[.int .i64 f0, .slice A1 f1.length c1, .slice A2 f2.length c2] 31 (0, 0)) ∧ (w0.heap.size ≤ g ∨ g < w0.heap.size) ∧ Kd.C k59 w0 A1 f1.length f1 ∧ Kd.C (Kd.int .i64) w0 A2 f2.length f2
variable {A1 : Option Addr} {c1 : Nat} {A2 : Option Addr} {c2 : Nat}
theorem IsS31.grown {w0 W : World} {g : Nat} {f0 : Int} {f1 : List (S59)} {f2 : List Int} {W1 : World} {row : Option Nat} (h : IsS31 A1 c1 A2 c2 w0 W g f0 f1 f2) (hw : W.grownBy W1 row) (hne : some g ≠ row) : IsS31 A1 c1 A2 c2 w0 W1 g f0 f1 f2 := by
  obtain ⟨hb, hg, hr1, hr2⟩ := h
  exact ⟨blk_grown hb hw hne, hg, hr1, hr2⟩
theorem IsS31.kept {w0 W : World} {g : Nat} {f0 : Int} {f1 : List (S59)} {f2 : List Int} {W1 : World} {S : Nat → Prop} (h : IsS31 A1 c1 A2 c2 w0 W g f0 f1 f2) (hk : Kept W W1 S) (hne : ¬ S g) : IsS31 A1 c1 A2 c2 w0 W1 g f0 f1 f2 := by
  obtain ⟨hb, hg, hr1, hr2⟩ := h
  exact ⟨blk_kept hb hk hne, hg, hr1, hr2⟩
theorem IsS31.below {w0 W : World} {g : Nat} {f0 : Int} {f1 : List (S59)} {f2 : List Int} {W1 : World} (h : IsS31 A1 c1 A2 c2 w0 W g f0 f1 f2) (hw : Below W.heap.size W W1) : IsS31 A1 c1 A2 c2 w0 W1 g f0 f1 f2 := h.grown (grown_of_below hw none) (by simp)
theorem IsS31.alloc {w0 W : World} {g : Nat} {f0 : Int} {f1 : List (S59)} {f2 : List Int} (h : IsS31 A1 c1 A2 c2 w0 W g f0 f1 f2) (o : Obj) : IsS31 A1 c1 A2 c2 w0 (W.alloc o) g f0 f1 f2 := h.below (below_alloc (Below.refl _ _) o)
theorem IsS31.drewN {w0 W : World} {g : Nat} {f0 : Int} {f1 : List (S59)} {f2 : List Int} (h : IsS31 A1 c1 A2 c2 w0 W g f0 f1 f2) (m : Nat) : IsS31 A1 c1 A2 c2 w0 (W.drewN m) g f0 f1 f2 := h
theorem IsS31.drew {w0 W : World} {g : Nat} {f0 : Int} {f1 : List (S59)} {f2 : List Int} (h : IsS31 A1 c1 A2 c2 w0 W g f0 f1 f2) : IsS31 A1 c1 A2 c2 w0 W.drew g f0 f1 f2 := h
theorem IsS31.at_ {w0 W : World} {g : Nat} {f0 : Int} {f1 : List (S59)} {f2 : List Int} {w' : World} {m : Nat} (hq : W.drewN m = w') (h : IsS31 A1 c1 A2 c2 w0 W g f0 f1 f2) : IsS31 A1 c1 A2 c2 w0 w' g f0 f1 f2 := by subst hq; exact IsS31.drewN h m
theorem IsS31.apart {w0 W : World} {g : Nat} {f0 : Int} {f1 : List (S59)} {f2 : List Int} {α : Type} {d : Kd α} {e : Nat} {base : Nat} {ok : Nat → Prop} {v : Value} {xs : List α} (h : IsS31 A1 c1 A2 c2 w0 W g f0 f1 f2) (ho : d.R e W base ok v xs) (ht : ∀ q, q ∈ e :: d.E → q ≠ 31) : d.R e W base (fun k => ok k ∧ k ≠ g) v xs := by
  obtain ⟨hb, hg, hr1, hr2⟩ := h
  exact Kd.R_types ho hb ht
theorem IsS31.own_ne {w0 W : World} {g : Nat} {f0 : Int} {f1 : List (S59)} {f2 : List Int} {α : Type} {d : Kd α} {e : Nat} {base : Nat} {ok : Nat → Prop} {v : Value} {xs : List α} (h : IsS31 A1 c1 A2 c2 w0 W g f0 f1 f2) (ho : d.R e W base ok v xs) (ht : e ≠ 31) : some g ≠ v.ownBlock := by
  obtain ⟨hb, hg, hr1, hr2⟩ := h
  exact Kd.R_ne ho hb ht
theorem IsS31.ge {w0 W : World} {g : Nat} {f0 : Int} {f1 : List (S59)} {f2 : List Int} (h : IsS31 A1 c1 A2 c2 w0 W g f0 f1 f2) : (w0.heap.size ≤ g ∨ g < w0.heap.size) := by
  obtain ⟨hb, hg, hr1, hr2⟩ := h
  exact hg
theorem IsS31.far {w0 W : World} {g : Nat} {f0 : Int} {f1 : List (S59)} {f2 : List Int} {p : Addr} (h : IsS31 A1 c1 A2 c2 w0 W g f0 f1 f2) (hne : g ≠ p.block) (u : Value) : IsS31 A1 c1 A2 c2 w0 (W.setCell p u) g f0 f1 f2 := by
  obtain ⟨hb, hg, hr1, hr2⟩ := h
  exact ⟨blk_far hb hne u, hg, hr1, hr2⟩
theorem cellS31_0 {W : World} {g : Nat} {A1 : Option Addr} {c1 : Nat} {A2 : Option Addr} {c2 : Nat} {f0 : Int} {f1 : List (S59)} {f2 : List Int} (h : W.heap[g]? = some (.cells #[.int .i64 f0, .slice A1 f1.length c1, .slice A2 f2.length c2] 31 (0, 0))) : W.cell? ⟨g, 0, none⟩ = some (.int .i64 f0) := (blk_cell h 0).trans rfl
theorem IsS31.set_0 {w0 W : World} {g : Nat} {f0 : Int} {f1 : List (S59)} {f2 : List Int} (h : IsS31 A1 c1 A2 c2 w0 W g f0 f1 f2) (x : Int) : IsS31 A1 c1 A2 c2 w0 (W.setCell ⟨g, 0, none⟩ (.int .i64 x)) g x f1 f2 := by
  obtain ⟨hb, hg, hr1, hr2⟩ := h
  exact ⟨by simpa using blk_set hb 0 (.int .i64 x), hg, hr1, hr2⟩
theorem cellS31_1 {W : World} {g : Nat} {A1 : Option Addr} {c1 : Nat} {A2 : Option Addr} {c2 : Nat} {f0 : Int} {f1 : List (S59)} {f2 : List Int} (h : W.heap[g]? = some (.cells #[.int .i64 f0, .slice A1 f1.length c1, .slice A2 f2.length c2] 31 (0, 0))) : W.cell? ⟨g, 1, none⟩ = some (.slice A1 f1.length c1) := (blk_cell h 1).trans rfl
theorem cellS31_2 {W : World} {g : Nat} {A1 : Option Addr} {c1 : Nat} {A2 : Option Addr} {c2 : Nat} {f0 : Int} {f1 : List (S59)} {f2 : List Int} (h : W.heap[g]? = some (.cells #[.int .i64 f0, .slice A1 f1.length c1, .slice A2 f2.length c2] 31 (0, 0))) : W.cell? ⟨g, 2, none⟩ = some (.slice A2 f2.length c2) := (blk_cell h 2).trans rfl
theorem IsS31.new (w0 W : World) (A1 : Option Addr) (c1 : Nat) (A2 : Option Addr) (c2 : Nat) (f0 : Int) (f1 : List (S59)) (f2 : List Int) (hB : Below w0.heap.size w0 W) (hr1 : Kd.C k59 w0 A1 f1.length f1) (hr2 : Kd.C (Kd.int .i64) w0 A2 f2.length f2) : IsS31 A1 c1 A2 c2 w0 (W.alloc (.cells #[.int .i64 f0, .slice A1 f1.length c1, .slice A2 f2.length c2] 31)) W.heap.size f0 f1 f2 := ⟨by simpa using heap_alloc_new W _, .inl hB.size, hr1, hr2⟩

/-! ### impl_Sender_open: function 36 -/
def impl_Sender_open.l0 : Nat → List Int → Int → Int → Int → List (S59) → List Int → Option (List Int × Int)
  | 0, _, _, _, _, _, _ => none
  | k + 1, x3, x9, x10, x1000, x1001, x1002 => if x10 < x9 then ((impl_has.f x1001 x10).bind fun t104 => (if t104 = true then (impl_Sender_open.l0 k x3 x9 (wrap64 (x10 + 1)) x1000 x1001 x1002) else ((slices_Contains_int_int.f k x1002 x10).bind fun t105 => (if t105 = true then (impl_Sender_open.l0 k x3 x9 (wrap64 (x10 + 1)) x1000 x1001 x1002) else (if x3.length < 17592186044416 then (impl_Sender_open.l0 k (x3 ++ [x10]) x9 (wrap64 (x10 + 1)) x1000 x1001 x1002) else (none)))))) else (some (x3, x1000))
def impl_Sender_open.f (k : Nat) (s0_0 : Int) (s0_1 : List (S59)) (s0_2 : List Int) : Option (List Int × Int) := impl_Sender_open.l0 k (([] : List Int)) s0_0 0 s0_0 s0_1 s0_2
set_option maxHeartbeats 8000000 in
set_option maxRecDepth 100000 in
theorem impl_Sender_open.calls (k : Nat) (g : Nat) (s0_0 : Int) (s0_1 : List (S59)) (s0_2 : List Int) (r1 : List Int) (r2 : Int) (w0 w : World) (hI : IsS31 A1 c1 A2 c2 w0 w g s0_0 s0_1 s0_2) (hB : Below w0.heap.size w0 w) (hcap1_ : s0_1.length ≤ c1) (hcap2_ : s0_2.length ≤ c2) (h : impl_Sender_open.f k s0_0 s0_1 s0_2 = some (r1, r2)) :
  Calls Try.prog 36 #[.pointer (some ⟨g, 0, none⟩)] w fun e w' => ∃ v0_ : Value, e = .returned (v0_) ∧ Kd.R (Kd.int .i64) 3 w' w.heap.size (fun _ => True) v0_ r1 ∧ IsS31 A1 c1 A2 c2 w0 w' g r2 s0_1 s0_2 ∧ Below w0.heap.size w0 w' ∧ KeepBut w w' g none := by
 have HI0 := sA hI
 have HK := sA (KeepBut.refl w g none)
 have HL := sA hB.size
 clear hI
 have HW0 := sA hB.size
 have HB := sA hB
 clear hB
 have H : (impl_Sender_open.l0 k (([] : List Int)) s0_0 0 s0_0 s0_1 s0_2) = some (r1, r2) := h
 clear h
 obtain ⟨y101, hy101⟩ : ∃ y_ : List Int, y_ = (([] : List Int)) := ⟨_, rfl⟩
 replace H : (impl_Sender_open.l0 k y101 s0_0 0 s0_0 s0_1 s0_2) = some (r1, r2) := by first | (rw [hy101]; with_reducible exact H) | (have H2_ := (Option.bind_some _ _).symm.trans H; rw [hy101]; with_reducible exact H2_) | (have H2_ := (Option.bind_some _ _).symm.trans H; with_reducible exact H2_) | with_reducible exact H | (rw [hy101]; exact H) | exact H
 have Ny101 := sA hy101
 clear hy101
 have H' := sA H
 clear H
 go_enter Try.func36, Try.ntmps36
 go_wp2_with (first | ((with_reducible refine gate_dst (N := 5) rfl ?_); refine Kd.R_lit (Kd.int .i64) _ 3 ?hg (N := 5) ?hd (xs := ([] : List Int)) (inner := []) (ok := fun _ => True) (okp := fun _ => True) ?hr ?hp (fun _ hk => hk) trivial (Below.refl _ _) (Nat.le_refl _) (by simp) ?_; (case hd => rfl); (case hg => rfl); (case hr => first | (go_simp; done) | (go_simp; rfl)); (case hp => exact (Reps.none _ _)); intro v102 w2 ho3 hb hg_ hnew_; clear hg_ hnew_; (first | rw [← Ny101.out] at ho3 | (simp only [Int.reduceToNat] at ho3; rw [← Ny101.out] at ho3)); have HO103 := sA (Kd.R_lower ho3 (keep_size (w := w) (g := g) (row := none) (by repeat (first | (with_reducible first | exact HK.out | apply KeepBut.set_ | apply keep_drewN | apply keep_drew | apply keep_alloc) | exact HK.out)))); replace HI0 := sA (IsS31.below (by repeat (first | (with_reducible first | exact HI0.out | apply IsS31.alloc | apply IsS31.drewN | apply IsS31.drew | apply IsS31.set_0) | exact HI0.out)) hb); replace HB := sA (below_step sH hb); replace HK := sA (KeepBut.trans (by repeat (first | (with_reducible first | exact HK.out | apply KeepBut.set_ | apply keep_drewN | apply keep_drew | apply keep_alloc) | exact HK.out)) (KeepBut.of_below hb g none) (.inl rfl)); clear hb ho3; obtain ⟨HGz4, hgz4, HSz4_1, HSz4_2⟩ := HI0.out; have hcz4_0 := cellS31_0 HGz4; have hcz4_1 := cellS31_1 HGz4; have hcz4_2 := cellS31_2 HGz4; have hfz4_0 := blk_frozen HGz4 0; clear HGz4 hgz4))
 go_loopg [3, 10] k (fun kq v3 v10 w' => ∃ (x3_1 : List Int) (x10_1 : Int), v10 = .int .i64 x10_1 ∧ Aside0 (impl_Sender_open.l0 kq x3_1 s0_0 x10_1 s0_0 s0_1 s0_2 = some (r1, r2)) ∧ Aside0 (kq ≤ k) ∧ Aside0 (Kd.R (Kd.int .i64) 3 w' w.heap.size (fun _ => True) v3 x3_1) ∧ Aside0 (IsS31 A1 c1 A2 c2 w0 w' g s0_0 s0_1 s0_2) ∧ Aside0 (KeepBut w w' g none) ∧ Aside0 (Below w0.heap.size w0 w'))
 case atStart => exact ⟨(y101), (0), (by first | rfl | (simp; done) | (simp [*]; done)), H', ⟨Nat.le_refl _⟩, ⟨sR HO103.out⟩, ⟨by repeat (first | (with_reducible first | exact HI0.out | apply IsS31.alloc | apply IsS31.drewN | apply IsS31.drew | apply IsS31.set_0) | exact HI0.out)⟩, ⟨by repeat (first | (with_reducible first | exact HK.out | apply KeepBut.set_ | apply keep_drewN | apply keep_drew | apply keep_alloc) | exact HK.out)⟩, ⟨sH⟩⟩
 case round =>
  clear H'
  (try clear p2); (try clear c3)
  obtain ⟨x3_1, x10_1, rfl, HA, HK1, HO_3, HI0, HK, HB⟩ := hrel
  cases gk with
  | zero => exact absurd HA.out (by simp [impl_Sender_open.l0])
  | succ k1 =>
   have H := HA.out
   clear HA
   simp only [impl_Sender_open.l0] at H
   by_cases c5 : x10_1 < s0_0
   ·rw [if_pos c5] at H
    have c5b0 : decide (x10_1 < s0_0) = true := decide_eq_true c5
    clear c5
    obtain ⟨t104, A6, H⟩ := sN H
    by_cases c7 : t104 = true
    ·subst c7
     replace H := sY H
     have H' := sA H
     clear H
     obtain ⟨HGz8, hgz8, HSz8_1, HSz8_2⟩ := HI0.out
     have hcz8_0 := cellS31_0 HGz8
     have hcz8_1 := cellS31_1 HGz8
     have hcz8_2 := cellS31_2 HGz8
     have hfz8_0 := blk_frozen HGz8 0
     clear HGz8 hgz8
     go_wp2_with (first | ((with_reducible refine gate_callee (f := 45) rfl ?_); refine goesL_ (some 18) rfl rfl Try.func45 (by kernel_rfl) rfl #[.slice A1 s0_1.length c1, .int .i64 x10_1] rfl sG ?_; (with_reducible refine (impl_has.calls _ _ s0_1 x10_1 true _ ?side1 ?side2 A6.out).mono ?_); (case side1 => exact sK (Kd.C_below HSz8_1 HB.out)); (case side2 => exact hcap1_); rintro e w9 ⟨rfl, hb⟩; refine ⟨_, rfl, ?_⟩; replace HO_3 := sS HO_3 hb; replace HI0 := sA (IsS31.below (by repeat (first | (with_reducible first | exact HI0.out | apply IsS31.alloc | apply IsS31.drewN | apply IsS31.drew | apply IsS31.set_0) | exact HI0.out)) hb); replace HB := sA (below_step sH hb); replace HK := sA (KeepBut.trans (by repeat (first | (with_reducible first | exact HK.out | apply KeepBut.set_ | apply keep_drewN | apply keep_drew | apply keep_alloc) | exact HK.out)) (KeepBut.of_below hb g none) (.inl rfl)); (try clear hb); (try clear hb2); (try clear hk); (try clear hi)))
     go_roundg k1
     case measure => have := HK1.out; omega
     case rel => exact ⟨(x3_1), (wrap64 (x10_1 + 1)), (by first | rfl | (simp; done) | (simp [*]; done)), H', ⟨by have := HK1.out; omega⟩, ⟨sR HO_3.out⟩, ⟨by repeat (first | (with_reducible first | exact HI0.out | apply IsS31.alloc | apply IsS31.drewN | apply IsS31.drew | apply IsS31.set_0) | exact HI0.out)⟩, ⟨by repeat (first | (with_reducible first | exact HK.out | apply KeepBut.set_ | apply keep_drewN | apply keep_drew | apply keep_alloc) | exact HK.out)⟩, ⟨sH⟩⟩
    ·replace c7 := Bool.eq_false_iff.mpr c7
     subst c7
     replace H := sX H
     obtain ⟨t105, A10, H⟩ := sN H
     by_cases c11 : t105 = true
     ·subst c11
      replace H := sY H
      have H' := sA H
      clear H
      obtain ⟨HGz12, hgz12, HSz12_1, HSz12_2⟩ := HI0.out
      have hcz12_0 := cellS31_0 HGz12
      have hcz12_1 := cellS31_1 HGz12
      have hcz12_2 := cellS31_2 HGz12
      have hfz12_0 := blk_frozen HGz12 0
      clear HGz12 hgz12
      go_wp2_with (first | ((with_reducible refine gate_callee (f := 45) rfl ?_); refine goesL_ (some 18) rfl rfl Try.func45 (by kernel_rfl) rfl #[.slice A1 s0_1.length c1, .int .i64 x10_1] rfl sG ?_; (with_reducible refine (impl_has.calls _ _ s0_1 x10_1 false _ ?side1 ?side2 A6.out).mono ?_); (case side1 => exact sK (Kd.C_below HSz12_1 HB.out)); (case side2 => exact hcap1_); rintro e w13 ⟨rfl, hb⟩; refine ⟨_, rfl, ?_⟩; replace HO_3 := sS HO_3 hb; replace HI0 := sA (IsS31.below (by repeat (first | (with_reducible first | exact HI0.out | apply IsS31.alloc | apply IsS31.drewN | apply IsS31.drew | apply IsS31.set_0) | exact HI0.out)) hb); replace HB := sA (below_step sH hb); replace HK := sA (KeepBut.trans (by repeat (first | (with_reducible first | exact HK.out | apply KeepBut.set_ | apply keep_drewN | apply keep_drew | apply keep_alloc) | exact HK.out)) (KeepBut.of_below hb g none) (.inl rfl)); (try clear hb); (try clear hb2); (try clear hk); (try clear hi); obtain ⟨HGz14, hgz14, HSz14_1, HSz14_2⟩ := HI0.out; have hcz14_0 := cellS31_0 HGz14; have hcz14_1 := cellS31_1 HGz14; have hcz14_2 := cellS31_2 HGz14; have hfz14_0 := blk_frozen HGz14 0; clear HGz14 hgz14) | (go_at_call 64; (with_reducible refine (slices_Contains_int_int.calls k1 _ _ s0_2 x10_1 true _ ?side1 ?side2 A10.out).mono ?_); (case side1 => exact sK (Kd.C_below HSz14_2 HB.out)); (case side2 => exact hcap2_); rintro e w' ⟨rfl, ⟨nd, rfl⟩⟩))
      go_roundg k1
      case measure => have := HK1.out; omega
      case rel => exact ⟨(x3_1), (wrap64 (x10_1 + 1)), (by first | rfl | (simp; done) | (simp [*]; done)), H', ⟨by have := HK1.out; omega⟩, ⟨sR HO_3.out⟩, ⟨by repeat (first | (with_reducible first | exact HI0.out | apply IsS31.alloc | apply IsS31.drewN | apply IsS31.drew | apply IsS31.set_0) | exact HI0.out)⟩, ⟨by repeat (first | (with_reducible first | exact HK.out | apply KeepBut.set_ | apply keep_drewN | apply keep_drew | apply keep_alloc) | exact HK.out)⟩, ⟨sH⟩⟩
     ·replace c11 := Bool.eq_false_iff.mpr c11
      subst c11
      replace H := sX H
      by_cases c15 : x3_1.length < 17592186044416
      ·rw [if_pos c15] at H
       have LMc15 := sA c15
       clear c15
       obtain ⟨y106, hy106⟩ : ∃ y_ : List Int, y_ = (x3_1 ++ [x10_1]) := ⟨_, rfl⟩
       replace H : (impl_Sender_open.l0 k1 y106 s0_0 (wrap64 (x10_1 + 1)) s0_0 s0_1 s0_2) = some (r1, r2) := by first | (rw [hy106]; with_reducible exact H) | (have H2_ := (Option.bind_some _ _).symm.trans H; rw [hy106]; with_reducible exact H2_) | (have H2_ := (Option.bind_some _ _).symm.trans H; with_reducible exact H2_) | with_reducible exact H | (rw [hy106]; exact H) | exact H
       have Ny106 := sA hy106
       clear hy106
       have H' := sA H
       clear H
       obtain ⟨HGz16, hgz16, HSz16_1, HSz16_2⟩ := HI0.out
       have hcz16_0 := cellS31_0 HGz16
       have hcz16_1 := cellS31_1 HGz16
       have hcz16_2 := cellS31_2 HGz16
       have hfz16_0 := blk_frozen HGz16 0
       clear HGz16 hgz16
       go_wp2_with (first | ((with_reducible refine gate_callee (f := 45) rfl ?_); refine goesL_ (some 18) rfl rfl Try.func45 (by kernel_rfl) rfl #[.slice A1 s0_1.length c1, .int .i64 x10_1] rfl sG ?_; (with_reducible refine (impl_has.calls _ _ s0_1 x10_1 false _ ?side1 ?side2 A6.out).mono ?_); (case side1 => exact sK (Kd.C_below HSz16_1 HB.out)); (case side2 => exact hcap1_); rintro e w17 ⟨rfl, hb⟩; refine ⟨_, rfl, ?_⟩; replace HO_3 := sS HO_3 hb; replace HI0 := sA (IsS31.below (by repeat (first | (with_reducible first | exact HI0.out | apply IsS31.alloc | apply IsS31.drewN | apply IsS31.drew | apply IsS31.set_0) | exact HI0.out)) hb); replace HB := sA (below_step sH hb); replace HK := sA (KeepBut.trans (by repeat (first | (with_reducible first | exact HK.out | apply KeepBut.set_ | apply keep_drewN | apply keep_drew | apply keep_alloc) | exact HK.out)) (KeepBut.of_below hb g none) (.inl rfl)); (try clear hb); (try clear hb2); (try clear hk); (try clear hi); obtain ⟨HGz18, hgz18, HSz18_1, HSz18_2⟩ := HI0.out; have hcz18_0 := cellS31_0 HGz18; have hcz18_1 := cellS31_1 HGz18; have hcz18_2 := cellS31_2 HGz18; have hfz18_0 := blk_frozen HGz18 0; clear HGz18 hgz18) | (go_at_call 64; (with_reducible refine (slices_Contains_int_int.calls k1 _ _ s0_2 x10_1 false _ ?side1 ?side2 A10.out).mono ?_); (case side1 => exact sK (Kd.C_below HSz18_2 HB.out)); (case side2 => exact hcap2_); rintro e w' ⟨rfl, ⟨nd, rfl⟩⟩) | ((with_reducible refine gate_builtin (b := .append) (xs := #[.tmp 29, .tmp 31]) rfl ?_); at_builtin; refine Kd.R_append (Kd.int .i64) w.heap.size rfl (.tmp 29) (.tmp 31) 23 3 (.int .i64 0) 8 rfl Try.underlying23 info3 rfl (by decide) (by omega) u3 x3_1 x10_1 [.int .i64 x10_1] (fun _ => True) (fun _ => False) rfl rfl ?aP (fun _ hk => hk.elim) ?aF ?aO (Below.refl _ _) ?aS ?aL ?_; (case aP => exact rfl); (case aF => exact (fun _ _ => trivial)); (case aO => exact (sR HO_3.out)); (case aS => exact (keep_size (w := w) (g := g) (row := none) (by repeat (first | (with_reducible first | exact HK.out | apply KeepBut.set_ | apply keep_drewN | apply keep_drew | apply keep_alloc) | exact HK.out)))); (case aL => have := LMc15.out; omega); intro v107 w19 ho hb hg hat; rw [← Ny106.out] at ho; replace HI0 := sA (IsS31.grown (by repeat (first | (with_reducible first | exact HI0.out | apply IsS31.alloc | apply IsS31.drewN | apply IsS31.drew | apply IsS31.set_0) | exact HI0.out)) hg (IsS31.own_ne HI0.out HO_3.out (by decide))); replace HB := sA (below_weaken sH HL.out hb); replace HK := sA (KeepBut.trans (by repeat (first | (with_reducible first | exact HK.out | apply KeepBut.set_ | apply keep_drewN | apply keep_drew | apply keep_alloc) | exact HK.out)) (KeepBut.of_grown hg g) (Kd.R_base2 HO_3.out)); have HO108 := sA (ho); clear HO_3; clear ho hb hg hat))
       go_roundg k1
       case measure => have := HK1.out; omega
       case rel => exact ⟨(y106), (wrap64 (x10_1 + 1)), (by first | rfl | (simp; done) | (simp [*]; done)), H', ⟨by have := HK1.out; omega⟩, ⟨sR HO108.out⟩, ⟨by repeat (first | (with_reducible first | exact HI0.out | apply IsS31.alloc | apply IsS31.drewN | apply IsS31.drew | apply IsS31.set_0) | exact HI0.out)⟩, ⟨by repeat (first | (with_reducible first | exact HK.out | apply KeepBut.set_ | apply keep_drewN | apply keep_drew | apply keep_alloc) | exact HK.out)⟩, ⟨sH⟩⟩
      ·rw [if_neg c15] at H
       exact absurd H (by simp)
   ·rw [if_neg c5] at H
    have c5b0 : decide (x10_1 < s0_0) = false := decide_eq_false c5
    clear c5
    simp only [Option.some.injEq, Prod.mk.injEq] at H
    obtain ⟨rfl, rfl⟩ := H
    go_wp2
    go_ret
    exact ⟨_, by first | rfl | (simp [errW_none, errW_some] <;> rfl) | (simp [*, errW_none, errW_some] <;> rfl), by (with_reducible repeat (first | apply Kd.R_alloc | apply Kd.R_drewN | apply Kd.R_drew)); exact HO_3.out, by repeat (first | (with_reducible first | exact HI0.out | apply IsS31.alloc | apply IsS31.drewN | apply IsS31.drew | apply IsS31.set_0) | exact HI0.out), by repeat (first | (with_reducible first | exact HB.out | apply sLA | apply sLN | apply sLD | refine sLS ?_ (IsS31.ge HI0.out)) | exact HB.out), by repeat (first | (with_reducible first | exact HK.out | apply KeepBut.set_ | apply keep_drewN | apply keep_drew | apply keep_alloc) | exact HK.out)⟩

end Go.Proofs.Ytligcknlmbgbiaa.P

namespace Go.Proofs.Ytligcknlmbgbiaa.P
open Go.RowKit Go.Proofs.YtligcknlmbgbiaaW.PrintWords Go.Proofs.YtligcknlmbgbiaaW.PrintLast Go.Proofs.YtligcknlmbgbiaaW.PrintMore
attribute [local go_sem] max2_int min2_int max_two min_two max_three min_three max_four min_four
set_option linter.unusedVariables false
set_option linter.unusedSimpArgs false

/-! ### impl_Span_82: function 82 (by hand) -/
-- the call of (*Sender).open in OpenIn (in the turned form the sender's value stands for its box)
theorem open_keeps : ∀ (k : Nat) (x3 : List Int) (x9 x10 a : Int) (l1 : List S59) (l2 : List Int) (q : List Int × Int), impl_Sender_open.l0 k x3 x9 x10 a l1 l2 = some q → q.2 = a := by
  intro k
  induction k with
  | zero => intro x3 x9 x10 a l1 l2 q h; simp [impl_Sender_open.l0] at h
  | succ k ih =>
    intro x3 x9 x10 a l1 l2 q h
    rw [impl_Sender_open.l0] at h
    split at h
    · obtain ⟨t, _, h⟩ := Option.bind_eq_some_iff.1 h
      split at h
      · exact ih _ _ _ _ _ _ _ h
      · obtain ⟨t2, _, h⟩ := Option.bind_eq_some_iff.1 h
        split at h
        · exact ih _ _ _ _ _ _ _ h
        · split at h
          · exact ih _ _ _ _ _ _ _ h
          · cases h
    · obtain rfl := Option.some.inj h
      rfl
theorem below_of_state {w0 W w' : World} {g : Nat} {o : Obj} (hB : Below w0.heap.size w0 W) (h0 : W.heap[g]? = some o) (h1 : w'.heap[g]? = some o) (h2 : Below w0.heap.size w0 w') (h3 : KeepBut W w' g none) : Below W.heap.size W w' := by
  refine ⟨h2.os.trans hB.os.symm, h2.tape.trans hB.tape.symm, h2.output.trans hB.output.symm, h3.1, fun k hk => ?_⟩
  by_cases hg : k = g
  · subst hg
    exact h1.trans h0.symm
  · exact h3.2 k hk hg (by simp)
def impl_Span_82.f (k : Nat) (a0 : Int) (l1 : List S59) (l2 : List Int) : Option (List Int) := (impl_Sender_open.f k a0 l1 l2).bind fun q => some q.1
theorem impl_Span_82.calls (k : Nat) (a0 : Int) (A1 : Option Addr) (c1 : Nat) (l1 : List S59) (A2 : Option Addr) (c2 : Nat) (l2 : List Int) (r : List Int) (w : World) (hr1 : Kd.C k59 w A1 l1.length l1) (hc1 : l1.length ≤ c1) (hr2 : Kd.C (Kd.int .i64) w A2 l2.length l2) (hc2 : l2.length ≤ c2) (h : impl_Span_82.f k a0 l1 l2 = some r)
    {w0 : World} {g : Nat} (hI : IsS31 A1 c1 A2 c2 w0 w g a0 l1 l2) (hB : Below w0.heap.size w0 w) :
    Calls Try.prog 36 #[.pointer (some ⟨g, 0, none⟩)] w fun e w' => ∃ v0_ : Value, e = .returned (v0_) ∧ Kd.R (Kd.int .i64) 3 w' w.heap.size (fun _ => True) v0_ r ∧ Below w.heap.size w w' := by
  obtain ⟨q, hq, h⟩ := Option.bind_eq_some_iff.1 h
  obtain rfl := Option.some.inj h
  have hk := open_keeps k [] a0 0 a0 l1 l2 q hq
  obtain ⟨q1, q2⟩ := q
  dsimp only at hk ⊢
  subst hk
  refine (impl_Sender_open.calls (A1 := A1) (c1 := c1) (A2 := A2) (c2 := c2) k g q2 l1 l2 q1 q2 w0 w hI hB hc1 hc2 hq).mono ?_
  rintro e w' ⟨v, rfl, hR, h1, h2, h3⟩
  exact ⟨v, rfl, hR, below_of_state hB hI.1 h1.1 h2 h3⟩
-- .. in HearSpans: the box is told with what lies in it now
theorem impl_Span_82.calls2 (k : Nat) (a0 : Int) (A1 : Option Addr) (c1 : Nat) (l1 : List S59) (A2 : Option Addr) (c2 : Nat) (l2 : List Int) (r : List Int) (w : World) (hr1 : Kd.C k59 w A1 l1.length l1) (hc1 : l1.length ≤ c1) (hr2 : Kd.C (Kd.int .i64) w A2 l2.length l2) (hc2 : l2.length ≤ c2) (h : impl_Span_82.f k a0 l1 l2 = some r)
    {g : Nat} (hb : w.heap[g]? = some (.cells #[.int .i64 a0, .slice A1 l1.length c1, .slice A2 l2.length c2] 31 (0, 0))) :
    Calls Try.prog 36 #[.pointer (some ⟨g, 0, none⟩)] w fun e w' => ∃ v0_ : Value, e = .returned (v0_) ∧ Kd.R (Kd.int .i64) 3 w' w.heap.size (fun _ => True) v0_ r ∧ Below w.heap.size w w' :=
  impl_Span_82.calls k a0 A1 c1 l1 A2 c2 l2 r w hr1 hc1 hr2 hc2 h (w0 := w) (g := g) ⟨hb, Nat.lt_or_ge g w.heap.size |>.symm, hr1, hr2⟩ (Below.refl _ _)


end Go.Proofs.Ytligcknlmbgbiaa.P
