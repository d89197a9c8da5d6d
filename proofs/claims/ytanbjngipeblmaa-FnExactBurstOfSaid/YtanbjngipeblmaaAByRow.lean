-- Made by pw.py (wip/tools) with the kit's print. Not trusted: Lean checks it.
import Derived.Test.YtanbjngipeblmaaP0
import Derived.Lib.ConvBytes
namespace Go.Proofs.Ytanbjngipeblmaa.P
open Go.RowKit Go.Proofs.YtanbjngipeblmaaW.PrintWords Go.Proofs.YtanbjngipeblmaaW.PrintLast Go.Proofs.YtanbjngipeblmaaW.PrintMore
attribute [local go_sem] max2_int min2_int max_two min_two max_three min_three max_four min_four
set_option linter.unusedVariables false
set_option linter.unusedSimpArgs false

/-- The bytes of a row that a string was turned to. -/
structure ByRow (w : World) (g n : Nat) (xs : List Int) : Prop where
  len : xs.length = n
  cell : ∀ j : Nat, j < n → w.cell? ⟨g, j, none⟩ = some (.int .u8 (xs.getD j 0)) ∧ w.frozen? ⟨g, j, none⟩ = false
theorem ByRow.new (w : World) (e : TypeId) (s : ByteArray) : ByRow (Lib.bytesWorld w e s) w.heap.size s.size (bytesOf s) := by
  refine ⟨bytesOf_length s, fun j hj => ⟨?_, ?_⟩⟩
  · rw [Lib.bytesWorld_cell w e s j hj]
    have h' : j < s.data.toList.length := by rw [data_length]; exact hj
    simp [bytesOf, List.getD_eq_getElem?_getD, List.getElem?_eq_getElem h']
  · have hs : s.size ≤ (Lib.bytesCells w e s).size := by
      have := data_length s
      simp only [Lib.bytesCells, Array.size_append, Array.size_map, Array.size_replicate]
      have h2 : s.data.size = s.size := rfl
      omega
    simp only [World.frozen?, Lib.bytesWorld_at_new]
    simp
    omega
theorem ByRow.set {w : World} {g n : Nat} {xs : List Int} (h : ByRow w g n xs) (i : Nat) (hi : i < n) (x : Int) : ByRow (w.setCell ⟨g, i, none⟩ (.int .u8 x)) g n (xs.set i x) := by
  refine ⟨by rw [List.length_set]; exact h.len, fun j hj => ⟨?_, by rw [World.frozen?_setCell]; exact (h.cell j hj).2⟩⟩
  by_cases e : i = j
  · subst e
    rw [World.cell?_setCell_same _ _ _ (h.cell i hi).1]
    simp [List.getD_eq_getElem?_getD, List.getElem?_set_self (show i < xs.length by rw [h.len]; exact hi)]
  · rw [World.cell?_setCell_other _ _ _ _ (by intro q; simp only [Addr.mk.injEq] at q; exact e q.2.1), (h.cell j hj).1]
    simp [List.getD_eq_getElem?_getD, List.getElem?_set_ne e]
theorem ByRow.drewN {w : World} {g n : Nat} {xs : List Int} (h : ByRow w g n xs) (m : Nat) : ByRow (w.drewN m) g n xs := ⟨h.len, fun j hj => h.cell j hj⟩
theorem bytes_below' {B : Nat} {w W : World} (h : Below B w W) (hB : B ≤ W.heap.size) (e : TypeId) (s : ByteArray) : Below B w (Lib.bytesWorld W e s) := bytes_below h hB e s
/-- Bytes turned bit for bit, so many from a place on. -/
def burst (xs : List Int) (f : Nat) : Nat → List Int
  | 0 => xs
  | n + 1 => (burst xs f n).set (f + n) (Go.bits .xor .u8 (rd (burst xs f n) ((f + n : Nat) : Int)) 255)
theorem burst_length (xs : List Int) (f : Nat) : ∀ n, (burst xs f n).length = xs.length
  | 0 => rfl
  | n + 1 => by rw [burst, List.length_set, burst_length xs f n]

end Go.Proofs.Ytanbjngipeblmaa.P
