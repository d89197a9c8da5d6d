/- FnExactNewTurns: for every input that can be read, the law returns true and its arguments read as before. Conditions: none beyond the row's own. (Part 5 of 5: contracts made by pw.py with the kit's print, contracts by hand, plain laws, the row.) -/
import Derived.Test.YtpdpdfccgeegaaaMFnExactNewTurns3
import Derived.Test.YtpdpdfccgeegaaaRows
import Derived.WalkKit
import Derived.ProofKit
import Derived.OpenShut
import Derived.ShutString
import Derived.ChangeOld
import Derived.Below
import Derived.SizedLaws
import Derived.Carry

namespace Go.Proofs.Ytpdpdfccgeegaaa.Pure
open Go.RowKit Go.Proofs.Ytpdpdfccgeegaaa.P Go.Proofs.YtpdpdfccgeegaaaW.PrintWords Go.Proofs.YtpdpdfccgeegaaaW.PrintLast Go.Proofs.Ytpdpdfccgeegaaa.Opn
set_option linter.unusedVariables false
set_option linter.unusedSimpArgs false

theorem newTurns_both (l : List Int) (hn : l.length ≤ 1048576) (k : Nat) (hk : l.length < k) : ∃ (c : List Int) (n : Nat) (b : Bool), c.length ≤ 4 ∧ n ≤ 4 ∧ spec_NewTurns.f k l = some (c, List.replicate n [], List.replicate n 0, List.replicate n 0, 0, b) ∧ impl_NewTurns.f l = some (c, List.replicate n [], List.replicate n 0, List.replicate n 0, 0, b) := by
 unfold spec_NewTurns.f impl_NewTurns.f impl_areQuanta.f slices_Clone_int_int.f
 rw [spec_in, l1All l 20 100 hn k hk, any_inR, Bool.not_not]
 simp only [Option.bind_some]
 have hi : inR 1 4 (l.length : Int) = decide (1 ≤ (l.length : Int) ∧ (l.length : Int) ≤ 4) := rfl
 rw [hi]
 by_cases h1 : 1 ≤ (l.length : Int) ∧ (l.length : Int) ≤ 4
 ·rw [decide_eq_true h1, if_pos rfl, Bool.true_and]
  by_cases h2 : (l.all fun x => decide (20 ≤ x ∧ x ≤ 100)) = true
  ·rw [if_pos h2, if_pos h2, if_pos (by simp; omega), if_pos (by omega), if_pos (by omega), if_pos (by omega), if_pos (by omega), Option.bind_some, if_pos (by omega), if_pos (by omega), if_pos (by omega), List.nil_append, Int.toNat_natCast]
   exact ⟨l, l.length, true, by omega, by omega, rfl, rfl⟩
  ·rw [if_neg h2, if_neg h2]
   exact ⟨[], 0, false, by simp, by simp, rfl, rfl⟩
 ·rw [decide_eq_false h1, if_neg (by simp), Bool.false_and, if_neg (by simp)]
  exact ⟨[], 0, false, by simp, by simp, rfl, rfl⟩
theorem heldSS_nil (n : Nat) (hn : n ≤ 4) (a : Int) (ha : 0 ≤ a) (hb : a ≤ 1000) : ∀ (d k i : Nat), i + d = n → d + 2 < k → laws_heldIntSS.l0 k (List.replicate n []) a (i : Int) = some a := by
 intro d
 induction d with
 | zero =>
  intro k i hi hk
  obtain ⟨k, rfl⟩ := round (show 0 < k by omega)
  rw [laws_heldIntSS.l0, if_neg (by rw [List.length_replicate]; omega)]
 | succ d ih =>
  intro k i hi hk
  obtain ⟨k, rfl⟩ := round (show 0 < k by omega)
  have q : ((i + 1 : Nat) : Int) = (i : Int) + 1 := by omega
  have e : rd_L1 (List.replicate n ([] : List Int)) (i : Int) = [] := by
   rw [rdL _ _ (by rw [List.length_replicate]; omega)]
   simp
  have hh := heldIntS 0 a ha (by omega) k (by omega)
  have e2 : marks a 0 = [] := rfl
  rw [e2] at hh
  rw [laws_heldIntSS.l0, if_pos (by rw [List.length_replicate]; omega), if_pos (by omega), e, hh, Option.bind_some, if_neg (by omega), wrap_id (x := (i : Int) + 1) (by omega) (by omega), ← q]
  have := ih k (i + 1) (by omega) (by omega)
  simpa using this
theorem markTu (c : List Int) (n : Nat) (hc : c.length ≤ 4) (hn : n ≤ 4) (k : Nat) (hk : 100 < k) : laws_markTurns.f k c (List.replicate n []) (List.replicate n 0) (List.replicate n 0) 0 1 = some ((1 : Int) + (c.length : Int) + (n : Int) + (n : Int), marks 1 c.length, marks (1 + c.length) n, marks (1 + c.length + n) n) := by
 have hl : (List.replicate n (0 : Int)).length = n := List.length_replicate
 have h1 := markIntS c 1 (by omega) (by omega) k (by omega)
 have h2 := markIntS (List.replicate n (0 : Int)) (1 + c.length) (by omega) (by rw [hl]; omega) k (by rw [hl]; omega)
 have h3 := markIntS (List.replicate n (0 : Int)) (1 + c.length + n) (by omega) (by rw [hl]; omega) k (by rw [hl]; omega)
 rw [hl] at h2 h3
 unfold laws_markTurns.f laws_markIntSS.f
 rw [h1, Option.bind_some, if_pos (by rw [List.all_eq_true]; intro r hr; rw [List.eq_of_mem_replicate hr]; rfl), Option.bind_some, h2, Option.bind_some, h3]
 rfl
theorem heldTu (m n : Nat) (hm : m ≤ 4) (hn : n ≤ 4) (k : Nat) (hk : 100 < k) : laws_heldTurns.f k (marks 1 m) (List.replicate n []) (marks (1 + m) n) (marks (1 + m + n) n) 0 1 = some ((1 : Int) + (m : Int) + (n : Int) + (n : Int)) := by
 have h1 := heldIntS m 1 (by omega) (by omega) k (by omega)
 have h2 := heldIntS n (1 + m) (by omega) (by omega) k (by omega)
 have h3 := heldIntS n (1 + m + n) (by omega) (by omega) k (by omega)
 have h4 := heldSS_nil n hn (1 + m) (by omega) (by omega) n k 0 (by omega) (by omega)
 have h4' : laws_heldIntSS.f k (List.replicate n []) (1 + (m : Int)) = some (1 + (m : Int)) := h4
 unfold laws_heldTurns.f
 rw [h1, Option.bind_some, if_neg (by omega), h4', Option.bind_some, if_neg (by omega), h2, Option.bind_some, if_neg (by omega), h3, Option.bind_some, if_neg (by omega)]
theorem FnExactNewTurns : laws_FnExactNewTurns.Pure := by
 intro l hl
 by_cases hn : l.length ≤ 1048576
 ·obtain ⟨m, hm⟩ : ∃ m, m = l.length + 5000000 := ⟨_, rfl⟩
  refine ⟨m + 3, ?_⟩
  obtain ⟨c, n, b, hc, hnn, h1, h2⟩ := newTurns_both l hn (m + 3) (by omega)
  have hr0 : (List.replicate n (0 : Int)).length ≤ 1048576 := by rw [List.length_replicate]; omega
  have hr1 : (List.replicate n ([] : List Int)).length ≤ 1048576 := by rw [List.length_replicate]; omega
  have hq : ∀ q, q ∈ List.replicate n ([] : List Int) → q.length ≤ 1048576 := fun q h => by rw [List.eq_of_mem_replicate h]; simp
  have he := fun k (hk : 4000000 < k) => eqTurns c (List.replicate n []) (List.replicate n 0) (List.replicate n 0) 0 (by omega) hr1 hq hr0 hr0 k (by omega)
  unfold laws_FnExactNewTurns.f
  rw [if_neg (by omega)]
  simp only [toIntS l hn (m + 3) (by omega), Option.bind_some, h1, h2, he (m + 3) (by omega), if_true]
  rw [laws_FnExactNewTurns.j0]
  simp only [bne_self_eq_false, Bool.false_eq_true, if_false, toIntS l hn (m + 2) (by omega), Option.bind_some, eqIntS l l hn (m + 2) (by omega), decide_true, if_true, markIntS l 1 (by omega) (by omega) (m + 2) (by omega), he (m + 2) (by omega)]
  rw [if_neg (by omega), laws_FnExactNewTurns.j1]
  simp only [bne_self_eq_false, Bool.false_eq_true, if_false, markTu c n hc hnn (m + 1) (by omega), Option.bind_some, heldTu c.length n hc hnn (m + 1) (by omega), toIntS l hn (m + 1) (by omega), h2, he (m + 1) (by omega), if_true]
  rw [if_neg (by omega), laws_FnExactNewTurns.j2]
  simp only [bne_self_eq_false, Bool.false_eq_true, if_false, heldTu c.length n hc hnn m (by omega), Option.bind_some, if_true]
  rw [if_neg (by omega)]
 ·refine ⟨0, ?_⟩
  unfold laws_FnExactNewTurns.f
  rw [if_pos (by omega)]

end Go.Proofs.Ytpdpdfccgeegaaa.Pure

namespace Go.Proofs.Ytpdpdfccgeegaaa.fnExactNewTurns
open Go.ChangeShapes Go.WideShapes Go.ChangeAt Go.RowKit Go.Proofs.Ytpdpdfccgeegaaa.P Go.Proofs.Ytpdpdfccgeegaaa.Opn Go.Proofs.YtpdpdfccgeegaaaW.PrintWords
open Go.ChangeMaps (open_string shut_string)
set_option linter.unusedVariables false
theorem own : ownKnob Try.prog.godebug = none := by kernel_rfl
theorem laidOut : laidOutB Try.prog = true := by kernel_rfl
set_option maxRecDepth 100000 in
theorem lifted (os : Os) (started : os.Started) (H : Type) (enc : TypeId × Value → H) :
  ReturnsInHanded {} Try.checked os 3 .any (Rows.fnExactNewTurnsSpec.pre6 enc Try.prog Try.f3 Rows.fnExactNewTurnsRow.domain false) (Rows.fnExactNewTurnsSpec.post enc Try.prog Try.f3 false true false false) := by
 refine returnsInHanded_of_change_sized (C := Try.checked) own started (by kernel_rfl) Try.func3
  (ChangeSpec.witness6 (enc := enc) (C := Try.checked) false ⟨#[], #[.slice none 0 0], []⟩ 8 (by kernel_rfl) (by kernel_rfl) (by kernel_rfl) (by kernel_rfl)) ?_
 intro W base args ds gs before hval0 hW hcnd hsz0 _
 have hval : ∀ (j : Nat) t v, Try.f3.params[j]? = some t → args[j]? = some v → Value.okWide Try.prog W .any base t v := hval0
 have hW' := hW
 obtain ⟨p, q, hA0, hV, rfl, hfz, hnd⟩ := hW
 have hA : DataW.TrodAll enc Try.prog W 0 (fun _ => true) true Try.f3.params.toList args.toList ds p := hA0
 rw [Try.params3] at hA hval
 obtain ⟨v0, vs0, d0, ds0, p0, q0, hargs, rfl, rfl, h0, r0⟩ := trodAll_cons hA
 obtain ⟨rfl, rfl, rfl⟩ := trodAll_nil r0
 obtain rfl : args = #[v0] := by cases args; simp_all
 obtain ⟨rfl, rfl⟩ := trodVars_none hV
 have k0 := h0
 have lt0 : ∀ x ∈ p0, x.block < W.heap.size := by obtain ⟨m, hm⟩ := k0; exact DataW.trod_lt m _ _ _ hm
 obtain ⟨fuel0, hf0⟩ := h0
 obtain ⟨y0, hK0, hw0⟩ := opens22.out enc W fuel0 _ _ hf0
 obtain ⟨a0, len0, cap0, rfl⟩ := okWide_slice Try.underlying22 (hval 0 22 v0 rfl rfl)
 obtain ⟨A0, c0, hcs0, hc0, hr0⟩ := hK0
 simp only [Value.cells, List.cons.injEq, Value.slice.injEq, and_true] at hcs0
 obtain ⟨rfl, rfl, rfl⟩ := hcs0
 obtain ⟨k_, hP⟩ := Pure.FnExactNewTurns y0 hw0
 refine (laws_FnExactNewTurns.calls k_ _ _ y0 true W hr0 hc0 hP).mono fun e W' he => ?_
 obtain ⟨rfl, hd⟩ := he
 have bel : Below W.heap.size W W' := hd
 exact ⟨_, rfl, _, _, _, [], _, [], hW', trodAll_mk1 (shut_bool Try.underlying4 _), (trodAll_cons_mk (Below.trod laidOut (by kernel_rfl) (of_decide_eq_true (by kernel_rfl)) k0 bel lt0) trodAll_mk0), rfl, bel.frame _, fun h => by cases h⟩
theorem over : Rows.fnExactNewTurnsRow.holds Try.pinned (OpenSpec.ofChange Rows.fnExactNewTurnsSpec) :=
 OpenClaim.holds_of_wide 3 Try.f3 rfl rfl rfl rfl rfl rfl rfl ⟨rfl, rfl, rfl, rfl, rfl⟩ rfl rfl rfl rfl rfl (by kernel_rfl) Try.func3 (by kernel_rfl)
  (of_decide_eq_true (by kernel_rfl)) (by unfold Func.isWrapper; first | (rw [if_pos (by decide +kernel)]; kernel_rfl) | (rw [if_neg (by decide +kernel)]; exact ⟨rfl, rfl⟩))
  (fun os started H enc _ => lifted os started H enc)
end Go.Proofs.Ytpdpdfccgeegaaa.fnExactNewTurns
namespace Go.Proofs.Ytpdpdfccgeegaaa
/-- The row. -/
theorem fnExactNewTurns_holds : Rows.FnExactNewTurnsSaid := fnExactNewTurns.over
#print axioms fnExactNewTurns_holds
end Go.Proofs.Ytpdpdfccgeegaaa
