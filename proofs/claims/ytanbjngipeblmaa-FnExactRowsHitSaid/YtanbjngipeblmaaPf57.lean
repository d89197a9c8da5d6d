-- Made by pw.py (wip/tools) with the kit's print. Not trusted: Lean checks it.
import Derived.Test.YtanbjngipeblmaaP0
import Derived.Test.YtanbjngipeblmaaASortRow
import Derived.Shelf.SlicesG.CompactI
namespace Go.Proofs.Ytanbjngipeblmaa.P
open Go.RowKit Go.Proofs.YtanbjngipeblmaaW.PrintWords Go.Proofs.YtanbjngipeblmaaW.PrintLast Go.Proofs.YtanbjngipeblmaaW.PrintMore
attribute [local go_sem] max2_int min2_int max_two min_two max_three min_three max_four min_four
set_option linter.unusedVariables false
set_option linter.unusedSimpArgs false

/-! ### slices_Compact_int_int: function 57 (by hand) -/
open Go.Shelf Go.Sort
def slices_Compact_int_int.lay_ren : Go.Shelf.Ren := ⟨fun | 43 => 57 | n => n, fun | 22 => 38 | 23 => 3 | 3 => 3 | 4 => 4 | 0 => 0 | n => n, fun | n => n⟩
theorem slices_Compact_int_int.lay : SlLaysN.n43 Try.prog slices_Compact_int_int.lay_ren := {
  mixed := by kernel_rfl
  f43 := ⟨Try.f57.name, by decide, Try.func57.trans (congrArg some (by kernel_rfl))⟩
  t0 := Try.underlying0
  a0 := Try.isAgg0
  z0 := Try.sizeOf0
  v0 := Try.zeroValue0
  t3 := Try.underlying3
  a3 := Try.isAgg3
  z3 := Try.sizeOf3
  v3 := Try.zeroValue3
  t4 := Try.underlying4
  a4 := Try.isAgg4
  z4 := Try.sizeOf4
  v4 := Try.zeroValue4
  t22 := Try.underlying38
  a22 := Try.isAgg38
  z22 := Try.sizeOf38
  v22 := Try.zeroValue38
  t23 := Try.underlying3
  a23 := Try.isAgg3
  z23 := Try.sizeOf3
  v23 := Try.zeroValue3
  i23 := by kernel_rfl }


/-- slices.Compact at []int. -/
def slices_Compact_int_int.f (l : List Int) : Option (List Int) := if l.length ≤ 9223372036854775807 then some (Lib.compact l) else none
theorem slices_Compact_int_int.calls (P0_ : Nat → Prop) (u9000_ : Value) (l0 : List Int) (r : List Int) (w0 w : World) (hB : Below w0.heap.size w0 w) (ho0 : Kd.R (Kd.int .i64) 3 w w0.heap.size P0_ u9000_ l0) (h : slices_Compact_int_int.f l0 = some r) :
    Calls Try.prog 57 #[u9000_] w fun e w' => ∃ v0_ : Value, e = .returned (v0_) ∧ Kd.R (Kd.int .i64) 3 w' w0.heap.size (fun k_ => (P0_ k_ ∨ w.heap.size ≤ k_)) v0_ r ∧ Below w0.heap.size w0 w' ∧ Kept w w' (fun k_ => P0_ k_) := by
  unfold slices_Compact_int_int.f at h
  by_cases hl : l0.length ≤ 9223372036854775807
  · rw [if_pos hl] at h
    obtain rfl := Option.some.inj h
    rcases R_parts ho0 with ⟨rfl, rfl⟩ | ⟨g, cap, cur, inner, rfl, hok, hg, hh, h1, h2, h3, h4, hr⟩
    · refine (AnyG.slices_Compact_int_empty slices_Compact_int_int.lay none 0 w).mono ?_
      rintro e w' ⟨rfl, rfl⟩
      exact ⟨_, rfl, by simpa [Lib.compact, Lib.compactUpTo] using Kd.R_nil (Kd.int .i64) 3 _ _ _, hB, Kept.refl _ _⟩
    · have hz : (Kd.int .i64).sz = 1 := rfl
      have hi := Kd.reps_encs hr
      rw [hi, hz, Nat.mul_one] at h4
      rw [hz] at h3
      have hle : (Lib.compact l0).length ≤ l0.length := by
        unfold Lib.compact Lib.compactUpTo
        rw [List.length_map]
        exact Nat.le_trans (List.length_filter_le _ _) (by simp)
      refine (AnyG.slices_Compact_int slices_Compact_int_int.lay g 0 cap l0 w (holds_put (Value.int .i64) hh (by simpa [encs] using h4)) hl h1).mono ?_
      rintro e w' ⟨rfl, q, hw⟩
      rw [← grow_empty (putRow _ _ _ _ _)] at hw
      subst hw
      generalize hys : Lib.compact l0 ++ List.replicate (l0.length - (Lib.compact l0).length) 0 = ys
      have hlen : ys.length = l0.length := by rw [← hys]; simp; omega
      have hR : Kd.R (Kd.int .i64) 3 (grow (putRow (Value.int .i64) (Sort.ahead w q) g 0 ys.toArray) #[]) w0.heap.size (fun k_ => (P0_ k_ ∨ w.heap.size ≤ k_)) (.slice (some ⟨g, 0, none⟩) ys.length cap) ys :=
        R_put (Value.int .i64) _ (.inl hok) hg hh (by rw [hlen]; exact h1) h2 h3 (by simp [hz]) (Kd.reps_scalar (enc := Value.int .i64) ys)
      have hT := Kd.R_take (m := (Lib.compact l0).length) hR (by omega)
      have ht : ys.take (Lib.compact l0).length = Lib.compact l0 := by rw [← hys]; exact List.take_left
      rw [ht] at hT
      exact ⟨_, rfl, hT, below_put _ _ hB hg, kept_put _ _ hok⟩
  · rw [if_neg hl] at h
    cases h


end Go.Proofs.Ytanbjngipeblmaa.P
