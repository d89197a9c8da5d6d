/- FnExactAgreesIn: for every input that can be read, the law returns true and its arguments read as before. Conditions: none beyond the row's own. (Part 4 of 4: contracts made by pw.py with the kit's print, contracts by hand, plain laws, the row.) -/
import Derived.Test.YtcdimbegdijghaaMFnExactAgreesIn2
import Derived.Test.YtcdimbegdijghaaRows
import Derived.WalkKit
import Derived.ProofKit
import Derived.OpenShut
import Derived.ShutString
import Derived.ChangeOld
import Derived.Below
import Derived.SizedLaws
import Derived.Carry

namespace Go.Proofs.Ytcdimbegdijghaa.Pure
open Go.RowKit Go.Proofs.Ytcdimbegdijghaa.P Go.Proofs.YtcdimbegdijghaaW.PrintWords Go.Proofs.YtcdimbegdijghaaW.PrintLast Go.Proofs.Ytcdimbegdijghaa.Opn
set_option linter.unusedVariables false
set_option linter.unusedSimpArgs false

def cvCase (x : S52) : S40 := ⟨x.f0, x.f1, x.f2, x.f3⟩
theorem rdCase (l : List S40) (i : Nat) (h : i < l.length) : rd_T40 l (i : Int) = l[i] := by
  simp [rd_T40, List.getD_eq_getElem?_getD, List.getElem?_eq_getElem h]
theorem rdLCase (l : List S52) (i : Nat) (h : i < l.length) : rd_T52 l (i : Int) = l[i] := by
  simp [rd_T52, List.getD_eq_getElem?_getD, List.getElem?_eq_getElem h]
theorem drop_rdCase (l : List S40) (i : Nat) (h : i < l.length) : l.drop i = rd_T40 l (i : Int) :: l.drop (i + 1) := by
  rw [List.drop_eq_getElem_cons h, rdCase l i h]
theorem szCaseS_ok (l : List S52) (a : Int) (ha : 0 ≤ a) (ha2 : a ≤ 1048576) (h : (l.length : Int) ≤ a) : laws_szCaseS.f l a = some (a - l.length) := by
  unfold laws_szCaseS.f
  rw [wrap_id (by omega) (by omega), if_neg (by omega)]
theorem szCaseS_big (l : List S52) (a : Int) (ha : 0 ≤ a) (ha2 : a ≤ 1048576) (hl : l.length ≤ 9223372036854775807) (h : ¬ (l.length : Int) ≤ a) : laws_szCaseS.f l a = some (-1) := by
  unfold laws_szCaseS.f
  rw [wrap_id (by omega) (by omega), if_pos (by omega)]
theorem toCaseS_l0 (x : List S52) (hn : x.length ≤ 1048576) : ∀ (d k i : Nat) (y : List S40), i + d = x.length → d < k → y.length = x.length → y.take i = (x.map cvCase).take i → laws_toCaseS.l0 k x y (i : Int) = some (x.map cvCase) := by
  intro d
  induction d with
  | zero =>
    intro k i y hi hk hy ht
    obtain ⟨k, rfl⟩ := round hk
    simp only [laws_toCaseS.l0]
    rw [if_neg (by omega)]
    rw [List.take_of_length_le (by omega), List.take_of_length_le (by simp; omega)] at ht
    rw [ht]
  | succ d ih =>
    intro k i y hi hk hy ht
    obtain ⟨k, rfl⟩ := round hk
    simp only [laws_toCaseS.l0, laws_toCase.f, Option.bind_some]
    rw [if_pos (by omega), if_pos (by omega), if_pos (by omega), wrap_id (by omega) (by omega), Int.toNat_natCast]
    have := ih k (i + 1) (y.set i (cvCase (rd_T52 x i))) (by omega) (by omega) (by simpa using hy) (by
      rw [take_set_succ _ _ (by omega), ht, List.take_succ_eq_append_getElem (by simp; omega), rdLCase x i (by omega), List.getElem_map])
    simpa [cvCase] using this
theorem toCaseS (x : List S52) (hn : x.length ≤ 1048576) (k : Nat) (hk : x.length < k) : laws_toCaseS.f k x = some (x.map cvCase) := by
  unfold laws_toCaseS.f
  rw [if_pos (by omega), if_pos (by omega), Int.toNat_natCast]
  exact toCaseS_l0 x hn x.length k 0 _ (by omega) hk (by simp) (by simp)
theorem eqCase_refl (x : S40) : laws_eqCase.f x.f0 x.f1 x.f2 x.f3 x.f0 x.f1 x.f2 x.f3 = some true := by
  unfold laws_eqCase.f
  simp
theorem eqCaseS_l0 (x : List S40) (hn : x.length ≤ 1048576) : ∀ (d k i : Nat), i + d = x.length → d < k → laws_eqCaseS.l0 k x x (i : Int) = some true := by
  intro d
  induction d with
  | zero =>
    intro k i hi hk
    obtain ⟨k, rfl⟩ := round hk
    simp only [laws_eqCaseS.l0]
    rw [if_neg (by omega)]
  | succ d ih =>
    intro k i hi hk
    obtain ⟨k, rfl⟩ := round hk
    simp only [laws_eqCaseS.l0]
    rw [if_pos (by omega), if_pos (by omega), if_pos (by omega), eqCase_refl, Option.bind_some, if_pos rfl, wrap_id (by omega) (by omega)]
    have := ih k (i + 1) (by omega) (by omega)
    simpa using this
theorem eqCaseS (x : List S40) (hn : x.length ≤ 1048576) (k : Nat) (hk : x.length < k) : laws_eqCaseS.f k x x = some true := by
  unfold laws_eqCaseS.f
  rw [if_pos rfl]
  exact eqCaseS_l0 x hn x.length k 0 (by omega) hk

end Go.Proofs.Ytcdimbegdijghaa.Pure

namespace Go.Proofs.Ytcdimbegdijghaa.Pure
open Go.RowKit Go.Proofs.Ytcdimbegdijghaa.P Go.Proofs.YtcdimbegdijghaaW.PrintWords Go.Proofs.YtcdimbegdijghaaW.PrintLast Go.Proofs.Ytcdimbegdijghaa.Opn
set_option linter.unusedVariables false
set_option linter.unusedSimpArgs false

def cvSlip (x : S54) : S44 := ⟨x.f0, x.f1, x.f2⟩
theorem rdSlip (l : List S44) (i : Nat) (h : i < l.length) : rd_T44 l (i : Int) = l[i] := by
  simp [rd_T44, List.getD_eq_getElem?_getD, List.getElem?_eq_getElem h]
theorem rdLSlip (l : List S54) (i : Nat) (h : i < l.length) : rd_T54 l (i : Int) = l[i] := by
  simp [rd_T54, List.getD_eq_getElem?_getD, List.getElem?_eq_getElem h]
theorem drop_rdSlip (l : List S44) (i : Nat) (h : i < l.length) : l.drop i = rd_T44 l (i : Int) :: l.drop (i + 1) := by
  rw [List.drop_eq_getElem_cons h, rdSlip l i h]
theorem szSlipS_ok (l : List S54) (a : Int) (ha : 0 ≤ a) (ha2 : a ≤ 1048576) (h : (l.length : Int) ≤ a) : laws_szSlipS.f l a = some (a - l.length) := by
  unfold laws_szSlipS.f
  rw [wrap_id (by omega) (by omega), if_neg (by omega)]
theorem szSlipS_big (l : List S54) (a : Int) (ha : 0 ≤ a) (ha2 : a ≤ 1048576) (hl : l.length ≤ 9223372036854775807) (h : ¬ (l.length : Int) ≤ a) : laws_szSlipS.f l a = some (-1) := by
  unfold laws_szSlipS.f
  rw [wrap_id (by omega) (by omega), if_pos (by omega)]
theorem toSlipS_l0 (x : List S54) (hn : x.length ≤ 1048576) : ∀ (d k i : Nat) (y : List S44), i + d = x.length → d < k → y.length = x.length → y.take i = (x.map cvSlip).take i → laws_toSlipS.l0 k x y (i : Int) = some (x.map cvSlip) := by
  intro d
  induction d with
  | zero =>
    intro k i y hi hk hy ht
    obtain ⟨k, rfl⟩ := round hk
    simp only [laws_toSlipS.l0]
    rw [if_neg (by omega)]
    rw [List.take_of_length_le (by omega), List.take_of_length_le (by simp; omega)] at ht
    rw [ht]
  | succ d ih =>
    intro k i y hi hk hy ht
    obtain ⟨k, rfl⟩ := round hk
    simp only [laws_toSlipS.l0, laws_toSlip.f, Option.bind_some]
    rw [if_pos (by omega), if_pos (by omega), if_pos (by omega), wrap_id (by omega) (by omega), Int.toNat_natCast]
    have := ih k (i + 1) (y.set i (cvSlip (rd_T54 x i))) (by omega) (by omega) (by simpa using hy) (by
      rw [take_set_succ _ _ (by omega), ht, List.take_succ_eq_append_getElem (by simp; omega), rdLSlip x i (by omega), List.getElem_map])
    simpa [cvSlip] using this
theorem toSlipS (x : List S54) (hn : x.length ≤ 1048576) (k : Nat) (hk : x.length < k) : laws_toSlipS.f k x = some (x.map cvSlip) := by
  unfold laws_toSlipS.f
  rw [if_pos (by omega), if_pos (by omega), Int.toNat_natCast]
  exact toSlipS_l0 x hn x.length k 0 _ (by omega) hk (by simp) (by simp)
theorem eqSlip_refl (x : S44) : laws_eqSlip.f x.f0 x.f1 x.f2 x.f0 x.f1 x.f2 = some true := by
  unfold laws_eqSlip.f
  simp
theorem eqSlipS_l0 (x : List S44) (hn : x.length ≤ 1048576) : ∀ (d k i : Nat), i + d = x.length → d < k → laws_eqSlipS.l0 k x x (i : Int) = some true := by
  intro d
  induction d with
  | zero =>
    intro k i hi hk
    obtain ⟨k, rfl⟩ := round hk
    simp only [laws_eqSlipS.l0]
    rw [if_neg (by omega)]
  | succ d ih =>
    intro k i hi hk
    obtain ⟨k, rfl⟩ := round hk
    simp only [laws_eqSlipS.l0]
    rw [if_pos (by omega), if_pos (by omega), if_pos (by omega), eqSlip_refl, Option.bind_some, if_pos rfl, wrap_id (by omega) (by omega)]
    have := ih k (i + 1) (by omega) (by omega)
    simpa using this
theorem eqSlipS (x : List S44) (hn : x.length ≤ 1048576) (k : Nat) (hk : x.length < k) : laws_eqSlipS.f k x x = some true := by
  unfold laws_eqSlipS.f
  rw [if_pos rfl]
  exact eqSlipS_l0 x hn x.length k 0 (by omega) hk

end Go.Proofs.Ytcdimbegdijghaa.Pure

namespace Go.Proofs.Ytcdimbegdijghaa.Pure
open Go.RowKit Go.Proofs.Ytcdimbegdijghaa.P Go.Proofs.YtcdimbegdijghaaW.PrintWords Go.Proofs.YtcdimbegdijghaaW.PrintLast Go.Proofs.Ytcdimbegdijghaa.Opn
set_option linter.unusedVariables false
set_option linter.unusedSimpArgs false

abbrev Cs := S40
abbrev Sl := S44
theorem szCourt_ok (a : Int) (l1 : List S52) (l2 : List S54) (h : (l1.length : Int) + l2.length ≤ 1048576) : laws_szCourt.f a l1 l2 1048576 = some (1048576 - (l1.length : Int) - (l2.length : Int)) := by
  unfold laws_szCourt.f
  rw [szCaseS_ok l1 _ (by omega) (by omega) (by omega), Option.bind_some, if_neg (by omega), szSlipS_ok l2 _ (by omega) (by omega) (by omega), Option.bind_some, if_neg (by omega)]
theorem szCourt_big (a : Int) (l1 : List S52) (l2 : List S54) (h1 : l1.length ≤ 9223372036854775807) (h2 : l2.length ≤ 9223372036854775807) (h : ¬ (l1.length : Int) + l2.length ≤ 1048576) : laws_szCourt.f a l1 l2 1048576 = some (-1) := by
  unfold laws_szCourt.f
  by_cases hc : (l1.length : Int) ≤ 1048576
  · rw [szCaseS_ok l1 _ (by omega) (by omega) (by omega), Option.bind_some, if_neg (by omega), szSlipS_big l2 _ (by omega) (by omega) h2 (by omega), Option.bind_some, if_pos (by omega)]
  · rw [szCaseS_big l1 _ (by omega) (by omega) h1 (by omega), Option.bind_some, if_pos (by omega)]
theorem toCourt (a : Int) (l1 : List S52) (l2 : List S54) (h1 : l1.length ≤ 1048576) (h2 : l2.length ≤ 1048576) (k : Nat) (hk1 : l1.length < k) (hk2 : l2.length < k) : laws_toCourt.f k a l1 l2 = some (a, l1.map cvCase, l2.map cvSlip) := by
  unfold laws_toCourt.f
  rw [toCaseS l1 h1 k hk1, Option.bind_some, toSlipS l2 h2 k hk2, Option.bind_some]
theorem eqCourt (a : Int) (l1 : List Cs) (l2 : List Sl) (h1 : l1.length ≤ 1048576) (h2 : l2.length ≤ 1048576) (k : Nat) (hk1 : l1.length < k) (hk2 : l2.length < k) : laws_eqCourt.f k a l1 l2 a l1 l2 = some true := by
  unfold laws_eqCourt.f
  rw [if_pos rfl, eqCaseS l1 h1 k hk1, Option.bind_some, if_pos rfl, eqSlipS l2 h2 k hk2, Option.bind_some, if_pos rfl]
def goodCase (now f0 f2 f3 : Int) : Bool := decide (0 ≤ f0 ∧ f0 ≤ 100) && (decide (0 ≤ f3 ∧ f3 ≤ 2) && ((decide (f2 = 0) || decide (f2 = f3)) && !(decide (f3 = 0) && decide (now > f0))))
theorem spec_case (now f0 f2 f3 : Int) (A : Option Bool) : ((spec_l1In.f f0 0 100).bind fun t104 => (if t104 = true then ((spec_l16Verdict.f f2).bind fun t105 => (if t105 = true then ((spec_l16Verdict.f f3).bind fun t106 => (if t106 = true then (if f2 = 0 then (if f3 = 0 then (if now > f0 then (some false) else A) else A) else (if f2 = f3 then (if f3 = 0 then (if now > f0 then (some false) else A) else A) else (some false))) else (some false))) else (some false))) else (some false))) = if goodCase now f0 f2 f3 = true then A else some false := by
  unfold goodCase spec_l16Verdict.f
  simp only [spec_in, Option.bind_some]
  by_cases h0 : 0 ≤ f0 ∧ f0 ≤ 100
  · by_cases h3 : 0 ≤ f3 ∧ f3 ≤ 2
    · by_cases hz : f2 = 0
      · by_cases hy : f3 = 0
        · by_cases hn : now > f0
          · simp [h0, h3, hz, hy, hn]
          · simp [h0, h3, hz, hy, hn]
        · simp [h0, h3, hz, hy]
      · by_cases he : f2 = f3
        · subst he
          simp [h0, h3, hz]
        · by_cases h2 : 0 ≤ f2 ∧ f2 ≤ 2
          · simp [h0, h3, hz, he, h2]
          · simp [h0, hz, he, h2]
    · by_cases h2 : 0 ≤ f2 ∧ f2 ≤ 2
      · simp [h0, h3, h2]
      · simp [h0, h3, h2]
  · simp [h0]
theorem impl_case (now f0 f2 f3 : Int) (A : Option Bool) : ((impl_in.f f0 0 100).bind fun t106 => (if t106 = true then ((impl_in.f f3 0 2).bind fun t107 => (if t107 = true then (if f2 = 0 then (if f3 = 0 then (if now > f0 then (some false) else A) else A) else (if f2 = f3 then (if f3 = 0 then (if now > f0 then (some false) else A) else A) else (some false))) else (some false))) else (some false))) = if goodCase now f0 f2 f3 = true then A else some false := by
  unfold goodCase
  simp only [impl_in_, Option.bind_some]
  by_cases h0 : 0 ≤ f0 ∧ f0 ≤ 100
  · by_cases h3 : 0 ≤ f3 ∧ f3 ≤ 2
    · by_cases hz : f2 = 0
      · by_cases hy : f3 = 0
        · by_cases hn : now > f0
          · simp [h0, h3, hz, hy, hn]
          · simp [h0, h3, hz, hy, hn]
        · simp [h0, h3, hz, hy]
      · by_cases he : f2 = f3
        · subst he
          simp [h0, h3, hz]
        · simp [h0, h3, hz, he]
    · simp [h0, h3]
  · simp [h0]
def gc (now : Int) (x : Cs) : Bool := goodCase now x.f0 x.f2 x.f3
theorem spec_l0 (now : Int) (cs : List Cs) (ls : List Sl) (k : Nat) (hn : cs.length ≤ 1048576) : ∀ (d i : Nat), i + d = cs.length → spec_GoodCourt.l0 (k + 1 + d) cs (cs.length : Int) (i : Int) now cs ls = if (cs.drop i).all (gc now) = true then spec_GoodCourt.l1 k ls (ls.length : Int) 0 now cs ls else some false := by
  intro d
  induction d with
  | zero =>
    intro i h
    simp only [Nat.add_zero, spec_GoodCourt.l0]
    rw [if_neg (by omega), List.drop_of_length_le (by omega)]
    simp
  | succ d ih =>
    intro i h
    have e : k + 1 + (d + 1) = (k + 1 + d) + 1 := by omega
    rw [e, spec_GoodCourt.l0, if_pos (by omega), if_pos (by omega), if_pos (by omega), spec_case, show goodCase now (rd_T40 cs (i : Int)).f0 (rd_T40 cs (i : Int)).f2 (rd_T40 cs (i : Int)).f3 = gc now (rd_T40 cs (i : Int)) from rfl, drop_rdCase cs i (by omega), List.all_cons, wrap_id (x := (i : Int) + 1) (by omega) (by omega)]
    have := ih (i + 1) (by omega)
    by_cases hg : gc now (rd_T40 cs (i : Int)) = true
    · rw [if_pos hg]
      simp only [hg, Bool.true_and]
      exact this
    · rw [if_neg hg]
      simp [hg]
theorem impl_l0 (now : Int) (cs : List Cs) (ls : List Sl) (hn : cs.length ≤ 1048576) : ∀ (d k i : Nat), i + d = cs.length → d < k → impl_GoodCourt.l0 k cs (cs.length : Int) (i : Int) now cs ls = some ((cs.drop i).all (gc now) && ls.all (slipB cs)) := by
  intro d
  induction d with
  | zero =>
    intro k i h hk
    obtain ⟨k, rfl⟩ := round hk
    simp only [impl_GoodCourt.l0]
    rw [if_neg (by omega), List.drop_of_length_le (by omega)]
    unfold impl_Slip_19.f
    simp only [Option.bind_some, List.all_nil, Bool.true_and]
    rw [List.all_eq_not_any_not]
  | succ d ih =>
    intro k i h hk
    obtain ⟨k, rfl⟩ := round hk
    rw [impl_GoodCourt.l0, if_pos (by omega), if_pos (by omega), if_pos (by omega), impl_case, show goodCase now (rd_T40 cs (i : Int)).f0 (rd_T40 cs (i : Int)).f2 (rd_T40 cs (i : Int)).f3 = gc now (rd_T40 cs (i : Int)) from rfl, drop_rdCase cs i (by omega), List.all_cons, wrap_id (x := (i : Int) + 1) (by omega) (by omega)]
    have := ih k (i + 1) (by omega) (by omega)
    by_cases hg : gc now (rd_T40 cs (i : Int)) = true
    · rw [if_pos hg]
      simp only [hg, Bool.true_and]
      exact this
    · rw [if_neg hg]
      simp [hg]
def slipS (cs : List Cs) (x : Sl) : Bool := decide (0 ≤ x.f1 ∧ x.f1 ≤ (cs.length : Int) - 1) && (decide (1 ≤ x.f0 ∧ x.f0 ≤ 3) && (if x.f0 = 3 then !decide (x.f2 = 0) && decide (x.f2 = (rd_T40 cs x.f1).f3) else decide (x.f2 = 0)))
theorem slipS_eq (now : Int) (cs : List Cs) (x : Sl) (hc : cs.all (gc now) = true) : slipS cs x = slipB cs x := by
  unfold slipS slipB inR
  by_cases h1 : 0 ≤ x.f1 ∧ x.f1 ≤ (cs.length : Int) - 1
  · have h3 : 0 ≤ (rd_T40 cs x.f1).f3 ∧ (rd_T40 cs x.f1).f3 ≤ 2 := by
      obtain ⟨j, hj⟩ : ∃ j : Nat, x.f1 = (j : Int) := ⟨x.f1.toNat, by omega⟩
      rw [hj, rdCase cs j (by omega)]
      have := (List.all_eq_true.1 hc) (cs[j]'(by omega)) (List.getElem_mem _)
      unfold gc goodCase at this
      simp only [Bool.and_eq_true, decide_eq_true_eq] at this
      exact this.2.1
    generalize (rd_T40 cs x.f1).f3 = q at h3
    generalize x.f2 = z
    simp only [h1, and_self, decide_true, Bool.true_and]
    by_cases a3 : x.f0 = 3
    · rw [if_pos a3, if_pos a3, a3]
      by_cases hz : z = q
      · subst hz
        by_cases z0 : z = 0
        · simp [z0]
        · have : z = 1 ∨ z = 2 := by omega
          rcases this with rfl | rfl <;> simp
      · simp [hz]
    · rw [if_neg a3, if_neg a3]
      by_cases a1 : x.f0 = 1
      · rw [if_pos a1, a1]
        by_cases hz : z = 0 <;> simp [hz]
      · rw [if_neg a1]
        by_cases a2 : x.f0 = 2
        · rw [if_pos a2, a2]
          by_cases hz : z = 0 <;> simp [hz]
        · rw [if_neg a2]
          have : ¬ (1 ≤ x.f0 ∧ x.f0 ≤ 3) := by omega
          simp [this]
  · simp [h1]
theorem spec_l1 (now : Int) (cs : List Cs) (ls : List Sl) (hn : ls.length ≤ 1048576) : ∀ (d k i : Nat), i + d = ls.length → 2 * d < k → spec_GoodCourt.l1 k ls (ls.length : Int) (i : Int) now cs ls = some ((ls.drop i).all (slipS cs) && (decide ((cs.length : Int) ≤ 6) && (decide (0 ≤ now ∧ now ≤ 200) && decide ((ls.length : Int) ≤ 30)))) := by
  intro d
  induction d with
  | zero =>
    intro k i h hk
    obtain ⟨k, rfl⟩ := round hk
    simp only [spec_GoodCourt.l1]
    rw [if_neg (by omega), List.drop_of_length_le (by omega), spec_in]
    by_cases h6 : (cs.length : Int) ≤ 6
    · rw [if_pos h6]
      by_cases hw : 0 ≤ now ∧ now ≤ 200
      · simp [h6, hw]
      · simp [hw]
    · rw [if_neg h6]
      simp [h6]
  | succ d ih =>
    intro k i h hk
    obtain ⟨k, rfl⟩ : ∃ m, k = m + 1 + 1 := ⟨k - 2, by omega⟩
    have := ih k (i + 1) (by omega) (by omega)
    rw [spec_GoodCourt.l1, if_pos (by omega), if_pos (by omega), if_pos (by omega), drop_rdSlip ls i (by omega), List.all_cons]
    generalize rd_T44 ls (i : Int) = x
    have hi : wrap64 ((i : Int) + 1) = ((i + 1 : Nat) : Int) := by rw [wrap_id (by omega) (by omega)]; omega
    simp only [spec_in, Option.bind_some, spec_GoodCourt.j2, hi, this]
    unfold slipS
    by_cases h1 : x.f1 < 0
    · have : ¬ (0 ≤ x.f1 ∧ x.f1 ≤ (cs.length : Int) - 1) := by omega
      simp [h1, this]
    · rw [if_neg h1]
      by_cases h2 : x.f1 ≥ (cs.length : Int)
      · have : ¬ (0 ≤ x.f1 ∧ x.f1 ≤ (cs.length : Int) - 1) := by omega
        rw [if_pos h2]
        simp [this]
      · rw [if_neg h2]
        have h3 : 0 ≤ x.f1 ∧ x.f1 ≤ (cs.length : Int) - 1 := by omega
        have h4 : x.f1 < (cs.length : Int) := by omega
        by_cases h5 : 1 ≤ x.f0 ∧ x.f0 ≤ 3
        · by_cases h6 : x.f0 = 3
          · by_cases h7 : x.f2 = 0
            · simp [h3, h6, h7]
            · by_cases h8 : x.f2 = (rd_T40 cs x.f1).f3
              · simp only [h5, h3, h6, h7, h4, if_true, if_false, ← h8]
                simp
              · simp [h3, h6, h7, h8, h4]
          · by_cases h7 : x.f2 = 0
            · simp [h3, h5, h6, h7]
            · simp [h3, h5, h6, h7]
        · simp [h3, h5]
def goodCt (now : Int) (cs : List Cs) (ls : List Sl) : Bool := decide (0 ≤ now ∧ now ≤ 200) && (decide ((cs.length : Int) ≤ 6) && (decide ((ls.length : Int) ≤ 30) && (cs.all (gc now) && ls.all (slipB cs))))
theorem spec_good (now : Int) (cs : List Cs) (ls : List Sl) (hc : cs.length ≤ 1048576) (hl : ls.length ≤ 1048576) (k : Nat) (hk : cs.length + 2 * ls.length + 1 < k) : spec_GoodCourt.f k now cs ls = some (goodCt now cs ls) := by
  unfold spec_GoodCourt.f goodCt
  obtain ⟨m, rfl⟩ : ∃ m, k = m + 1 + cs.length := ⟨k - 1 - cs.length, by omega⟩
  have h0 := spec_l0 now cs ls m hc cs.length 0 (by omega)
  have h1 := spec_l1 now cs ls hl ls.length m 0 (by omega) (by omega)
  rw [show spec_GoodCourt.l0 (m + 1 + cs.length) cs (cs.length : Int) 0 now cs ls = _ from h0]
  simp only [List.drop_zero] at h1 ⊢
  by_cases hg : cs.all (gc now) = true
  · rw [if_pos hg, show spec_GoodCourt.l1 m ls (ls.length : Int) 0 now cs ls = _ from h1]
    have e : ls.all (slipS cs) = ls.all (slipB cs) := by
      congr 1
      funext x
      exact slipS_eq now cs x hg
    rw [e, hg]
    congr 1
    cases ls.all (slipB cs) <;> cases decide (0 ≤ now ∧ now ≤ 200) <;> cases decide ((cs.length : Int) ≤ 6) <;> cases decide ((ls.length : Int) ≤ 30) <;> rfl
  · rw [if_neg hg]
    rw [Bool.not_eq_true] at hg
    rw [hg]
    simp
theorem impl_good (now : Int) (cs : List Cs) (ls : List Sl) (hc : cs.length ≤ 1048576) (hl : ls.length ≤ 1048576) (k : Nat) (hk : cs.length + 1 < k) : impl_GoodCourt.f k now cs ls = some (goodCt now cs ls) := by
  unfold impl_GoodCourt.f goodCt
  obtain ⟨k, rfl⟩ := round hk
  have h0 := impl_l0 now cs ls hc cs.length k 0 (by omega) (by omega)
  have h0' : impl_GoodCourt.l0 k cs (cs.length : Int) 0 now cs ls = some (cs.all (gc now) && ls.all (slipB cs)) := by simpa using h0
  simp only [impl_in_, Option.bind_some, impl_GoodCourt.j0, h0', if_true]
  by_cases h1 : 0 ≤ now ∧ now ≤ 200
  · by_cases h2 : (cs.length : Int) ≤ 6
    · have h2' : ¬ (cs.length : Int) > 6 := by omega
      by_cases h3 : (ls.length : Int) ≤ 30
      · have h3' : ¬ (ls.length : Int) > 30 := by omega
        simp only [h1, h2, h3, h2', h3', and_self, decide_true, decide_false, if_true, if_false, Bool.true_and, Bool.false_eq_true]
      · have h3' : (ls.length : Int) > 30 := by omega
        simp only [h1, h2, h3, h2', h3', and_self, decide_true, decide_false, if_true, if_false, Bool.true_and, Bool.false_and]
    · have h2' : (cs.length : Int) > 6 := by omega
      simp only [h1, h2, h2', and_self, decide_true, decide_false, if_true, Bool.true_and, Bool.false_and]
  · simp only [h1, decide_false, Bool.false_eq_true, if_false, Bool.false_and]

end Go.Proofs.Ytcdimbegdijghaa.Pure

namespace Go.Proofs.Ytcdimbegdijghaa.Pure
open Go.RowKit Go.Proofs.Ytcdimbegdijghaa.P Go.Proofs.YtcdimbegdijghaaW.PrintWords Go.Proofs.YtcdimbegdijghaaW.PrintLast Go.Proofs.Ytcdimbegdijghaa.Opn
set_option linter.unusedVariables false
set_option linter.unusedSimpArgs false

theorem agrees_l0 (now : Int) (cs : List Cs) (hn : cs.length ≤ 1048576) (hg : ∀ x ∈ cs, gc now x = true) : ∀ (d k i : Nat), i + d = cs.length → d < k → spec_AgreesIn.l0 k cs (cs.length : Int) (i : Int) = some (true, true) := by
  intro d
  induction d with
  | zero =>
    intro k i h hk
    obtain ⟨k, rfl⟩ := round hk
    rw [spec_AgreesIn.l0, if_neg (by omega)]
  | succ d ih =>
    intro k i h hk
    obtain ⟨k, rfl⟩ := round hk
    have := ih k (i + 1) (by omega) (by omega)
    have hx := hg (cs[i]'(by omega)) (List.getElem_mem _)
    rw [← rdCase cs i (by omega)] at hx
    unfold gc goodCase at hx
    simp only [Bool.and_eq_true, Bool.or_eq_true, decide_eq_true_eq] at hx
    rw [spec_AgreesIn.l0, if_pos (by omega), if_pos (by omega), if_pos (by omega), wrap_id (x := (i : Int) + 1) (by omega) (by omega)]
    by_cases h0 : (rd_T40 cs (i : Int)).f2 = 0
    · rw [if_pos h0]
      exact this
    · rw [if_neg h0, if_pos (by rcases hx.2.2.1 with h | h; exact absurd h h0; exact h)]
      exact this
theorem FnExactAgreesIn : laws_FnExactAgreesIn.Pure := by
  intro a l1 l2 _ h1 h2
  by_cases hs : (l1.length : Int) + l2.length ≤ 1048576
  · refine ⟨l1.length + 2 * l2.length + 6, ?_⟩
    have hs' : spec_AgreesIn.f (l1.length + 2 * l2.length + 6) a (l1.map cvCase) (l2.map cvSlip) = some (if goodCt a (l1.map cvCase) (l2.map cvSlip) = true then (true, true) else (false, false)) := by
      unfold spec_AgreesIn.f
      rw [spec_good a (l1.map cvCase) (l2.map cvSlip) (by simp only [List.length_map]; omega) (by simp only [List.length_map]; omega) (l1.length + 2 * l2.length + 6) (by simp only [List.length_map]; omega), Option.bind_some]
      by_cases hg : goodCt a (l1.map cvCase) (l2.map cvSlip) = true
      · rw [if_pos hg, if_pos hg]
        have hc : (l1.map cvCase).all (gc a) = true := by
          unfold goodCt at hg
          simp only [Bool.and_eq_true] at hg
          exact hg.2.2.2.1
        exact agrees_l0 a (l1.map cvCase) (by simp only [List.length_map]; omega) (List.all_eq_true.1 hc) (l1.map cvCase).length _ 0 (by omega) (by simp only [List.length_map]; omega)
      · rw [if_neg hg, if_neg hg]
    have hi' : impl_AgreesIn.f (l1.length + 2 * l2.length + 6) a (l1.map cvCase) (l2.map cvSlip) = some (if goodCt a (l1.map cvCase) (l2.map cvSlip) = true then (true, true) else (false, false)) := by
      unfold impl_AgreesIn.f
      rw [impl_good a (l1.map cvCase) (l2.map cvSlip) (by simp only [List.length_map]; omega) (by simp only [List.length_map]; omega) (l1.length + 2 * l2.length + 6) (by simp only [List.length_map]; omega), Option.bind_some]
      split <;> rfl
    unfold laws_FnExactAgreesIn.f
    rw [szCourt_ok a l1 l2 hs, Option.bind_some, if_neg (by omega)]
    simp only [toCourt a l1 l2 (by omega) (by omega) (l1.length + 2 * l2.length + 6) (by omega) (by omega), Option.bind_some, hs', hi', laws_FnExactAgreesIn.j0,
      toCourt a l1 l2 (by omega) (by omega) (l1.length + 2 * l2.length + 5) (by omega) (by omega),
      eqCourt a (l1.map cvCase) (l2.map cvSlip) (by simp only [List.length_map]; omega) (by simp only [List.length_map]; omega) (l1.length + 2 * l2.length + 5) (by simp only [List.length_map]; omega) (by simp only [List.length_map]; omega)]
    simp
  · refine ⟨0, ?_⟩
    unfold laws_FnExactAgreesIn.f
    rw [szCourt_big a l1 l2 h1.1 h2.1 hs, Option.bind_some, if_pos (by omega)]

end Go.Proofs.Ytcdimbegdijghaa.Pure

namespace Go.Proofs.Ytcdimbegdijghaa.fnExactAgreesIn
open Go.ChangeShapes Go.WideShapes Go.ChangeAt Go.RowKit Go.Proofs.Ytcdimbegdijghaa.P Go.Proofs.Ytcdimbegdijghaa.Opn Go.Proofs.YtcdimbegdijghaaW.PrintWords
open Go.ChangeMaps (open_string shut_string)
set_option linter.unusedVariables false
theorem own : ownKnob Try.prog.godebug = none := by kernel_rfl
theorem laidOut : laidOutB Try.prog = true := by kernel_rfl
set_option maxRecDepth 100000 in
theorem lifted (os : Os) (started : os.Started) (H : Type) (enc : TypeId × Value → H) :
    ReturnsInHanded {} Try.checked os 4 .any (Rows.fnExactAgreesInSpec.pre6 enc Try.prog Try.f4 Rows.fnExactAgreesInRow.domain false) (Rows.fnExactAgreesInSpec.post enc Try.prog Try.f4 false true false false) := by
  refine returnsInHanded_of_change_sized (C := Try.checked) own started (by kernel_rfl) Try.func4
    (ChangeSpec.witness6 (enc := enc) (C := Try.checked) false ⟨#[], #[.agg #[.int .i64 0, .slice none 0 0, .slice none 0 0]], []⟩ 8 (by kernel_rfl) (by kernel_rfl) (by kernel_rfl) (by kernel_rfl)) ?_
  intro W base args ds gs before hval0 hW hcnd hsz0 _
  have hval : ∀ (j : Nat) t v, Try.f4.params[j]? = some t → args[j]? = some v → Value.okWide Try.prog W .any base t v := hval0
  have hW' := hW
  obtain ⟨p, q, hA0, hV, rfl, hfz, hnd⟩ := hW
  have hA : DataW.TrodAll enc Try.prog W 0 (fun _ => true) true Try.f4.params.toList args.toList ds p := hA0
  rw [Try.params4] at hA hval
  obtain ⟨v0, vs0, d0, ds0, p0, q0, hargs, rfl, rfl, h0, r0⟩ := trodAll_cons hA
  obtain ⟨rfl, rfl, rfl⟩ := trodAll_nil r0
  obtain rfl : args = #[v0] := by cases args; simp_all
  obtain ⟨rfl, rfl⟩ := trodVars_none hV
  have k0 := h0
  have lt0 : ∀ x ∈ p0, x.block < W.heap.size := by obtain ⟨m, hm⟩ := k0; exact DataW.trod_lt m _ _ _ hm
  obtain ⟨fuel0, hf0⟩ := h0
  obtain ⟨y0, hK0, hw0⟩ := opens25.out enc W fuel0 _ _ hf0
  obtain ⟨cs0, rfl, _⟩ := okWide_struct Try.underlying25 (hval 0 25 v0 rfl rfl)
  obtain ⟨A0_1, c0_1, A0_2, c0_2, hcs0, hc0_1, hr0_1, hc0_2, hr0_2⟩ := k25_open hK0
  obtain rfl : cs0 = #[.int .i64 y0.f0, .slice A0_1 y0.f1.length c0_1, .slice A0_2 y0.f2.length c0_2] := by simpa [Value.cells, ← Array.toList_inj] using hcs0
  obtain ⟨k_, hP⟩ := Pure.FnExactAgreesIn y0.f0 y0.f1 y0.f2 hw0.1 hw0.2.1 hw0.2.2
  refine (laws_FnExactAgreesIn.calls k_ y0.f0 _ _ y0.f1 _ _ y0.f2 true W hr0_1 hc0_1 hr0_2 hc0_2 hP).mono fun e W' he => ?_
  obtain ⟨rfl, hd⟩ := he
  have bel : Below W.heap.size W W' := hd
  exact ⟨_, rfl, _, _, _, [], _, [], hW', trodAll_mk1 (shut_bool Try.underlying4 _), (trodAll_cons_mk (Below.trod laidOut (by kernel_rfl) (of_decide_eq_true (by kernel_rfl)) k0 bel lt0) trodAll_mk0), rfl, bel.frame _, fun h => by cases h⟩
theorem over : Rows.fnExactAgreesInRow.holds Try.pinned (OpenSpec.ofChange Rows.fnExactAgreesInSpec) :=
  OpenClaim.holds_of_wide 4 Try.f4 rfl rfl rfl rfl rfl rfl rfl ⟨rfl, rfl, rfl, rfl, rfl⟩ rfl rfl rfl rfl rfl (by kernel_rfl) Try.func4 (by kernel_rfl)
    (of_decide_eq_true (by kernel_rfl)) (by unfold Func.isWrapper; first | (rw [if_pos (by decide +kernel)]; kernel_rfl) | (rw [if_neg (by decide +kernel)]; exact ⟨rfl, rfl⟩))
    (fun os started H enc _ => lifted os started H enc)
end Go.Proofs.Ytcdimbegdijghaa.fnExactAgreesIn
namespace Go.Proofs.Ytcdimbegdijghaa
/-- The row. -/
theorem fnExactAgreesIn_holds : Rows.FnExactAgreesInSaid := fnExactAgreesIn.over
#print axioms fnExactAgreesIn_holds
end Go.Proofs.Ytcdimbegdijghaa
