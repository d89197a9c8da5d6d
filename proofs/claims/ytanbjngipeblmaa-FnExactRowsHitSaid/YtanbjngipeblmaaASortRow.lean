-- Made by pw.py (wip/tools) with the kit's print. Not trusted: Lean checks it.
import Derived.Test.YtanbjngipeblmaaP0
import Derived.Sort.OwnSortedInts
namespace Go.Proofs.Ytanbjngipeblmaa.P
open Go.RowKit Go.Proofs.YtanbjngipeblmaaW.PrintWords Go.Proofs.YtanbjngipeblmaaW.PrintLast Go.Proofs.YtanbjngipeblmaaW.PrintMore
attribute [local go_sem] max2_int min2_int max_two min_two max_three min_three max_four min_four
set_option linter.unusedVariables false
set_option linter.unusedSimpArgs false

open Go.Sort
section
variable {β : Type} [Inhabited β] (enc : β → Value)
theorem heap_put {w : World} {g n : Nat} {os : Array Obj} {cur : Array Value} {e : TypeId} {fr : Nat × Nat} (d : Array β) (hb : w.heap[g]? = some (.cells cur e fr)) :
    (grow (putRow enc (Sort.ahead w n) g 0 d) os).heap[g]? = some (.cells (putCells enc 0 d cur) e fr) := by
  have hg : g < w.heap.size := (Array.getElem?_eq_some_iff.1 hb).1
  rw [heap_grow_old _ _ (by simpa using hg)]
  simp [putRow, mapBlock, Sort.ahead, Array.getElem?_modify, hb, onCells]
theorem grownBy_put {w : World} {g n : Nat} {os : Array Obj} (d : Array β) : w.grownBy (grow (putRow enc (Sort.ahead w n) g 0 d) os) (some g) := by
  refine ⟨rfl, rfl, rfl, by simp, fun k hk hne => ?_⟩
  rw [heap_grow_old _ _ (by simpa using hk)]
  have : g ≠ k := fun e => hne (by rw [e])
  simp [putRow, mapBlock, Sort.ahead, Array.getElem?_modify, this]
theorem take_put (cur : Array Value) (ts : Array β) (h : ts.size ≤ cur.size) : (putCells enc 0 ts cur).toList.take ts.size = ts.toList.map enc := by
  apply List.ext_getElem?
  intro j
  by_cases hj : j < ts.size
  · rw [List.getElem?_take_of_lt hj, Array.getElem?_toList]
    simp [putCells, hj, show j < cur.size by omega]
  · rw [List.getElem?_take_eq_none (by omega), List.getElem?_eq_none (by simp; omega)]
theorem holds_put {w : World} {g : Nat} {cur : Array Value} {e : TypeId} {d : Array β} (hb : w.heap[g]? = some (.cells cur e (0, 0))) (ht : cur.toList.take d.size = d.toList.map enc) : Holds enc w g 0 d := by
  intro j hj
  refine ⟨?_, by simp [World.frozen?, hb]⟩
  have h1 : (cur.toList.take d.size)[j]? = (d.toList.map enc)[j]? := by rw [ht]
  rw [List.getElem?_take_of_lt hj] at h1
  simp only [World.cell?, hb, Nat.zero_add]
  simp only [Option.isSome_none, Bool.false_eq_true, if_false]
  rw [← Array.getElem?_toList, h1]
  simp [hj]
end
section
variable {α : Type} {d : Kd α} {e : Nat} {w w0 : World} {base : Nat} {ok : Nat → Prop} {v : Value} {xs : List α}
/-- A row of the call's own: none, or a block's first cells. -/
theorem R_parts (h : d.R e w base ok v xs) : (v = .slice none 0 0 ∧ xs = []) ∨ ∃ (g cap : Nat) (cur : Array Value) (inner : List Value), v = .slice (some ⟨g, 0, none⟩) xs.length cap ∧ ok g ∧ base ≤ g ∧ w.heap[g]? = some (.cells cur e (0, 0)) ∧ xs.length ≤ cap ∧ cap ≤ maxLen ∧ cur.size = cap * d.sz ∧ cur.toList.take (xs.length * d.sz) = inner ∧ Reps (d.M w base (fun k => ok k ∧ some k ≠ v.ownBlock)) d.sz xs inner := by
  obtain ⟨h0, inner, ⟨hl, ho⟩, hr⟩ := h
  rcases ho with ⟨rfl, hz⟩ | ⟨g, cap, cur, rfl, hg, hh, h1, h2, h3, h4⟩
  · exact .inl ⟨rfl, List.length_eq_zero_iff.1 hz⟩
  · exact .inr ⟨g, cap, cur, inner, rfl, h0 g (by simp [Value.ownBlock]), hg, hh, h1, h2, h3, h4, hr⟩
/-- .. and behind new cells in place of the old ones: the same row, of as many elements. -/
theorem R_put {β : Type} [Inhabited β] (enc : β → Value) {g cap n : Nat} {cur : Array Value} {os : Array Obj} {ys : List α} (ts : Array β) (hok : ok g) (hg : base ≤ g) (hh : w.heap[g]? = some (.cells cur e (0, 0))) (h1 : ys.length ≤ cap) (h2 : cap ≤ maxLen) (h3 : cur.size = cap * d.sz) (hs : ts.size = ys.length * d.sz)
    (hr : Reps (d.M (grow (putRow enc (Sort.ahead w n) g 0 ts) os) base (fun k => ok k ∧ some k ≠ some g)) d.sz ys (ts.toList.map enc)) : d.R e (grow (putRow enc (Sort.ahead w n) g 0 ts) os) base ok (.slice (some ⟨g, 0, none⟩) ys.length cap) ys := by
  have hle : ts.size ≤ cur.size := by rw [hs, h3]; exact Nat.mul_le_mul_right _ h1
  refine ⟨fun k hk => by have e1 : g = k := by simpa [Value.ownBlock] using hk
                         exact e1 ▸ hok, ts.toList.map enc, ⟨by simp [hs], .inr ⟨g, cap, _, rfl, hg, heap_put enc _ hh, h1, h2, by simp [putCells, h3], by rw [← hs]; exact take_put enc cur ts hle⟩⟩, ?_⟩
  simpa [Value.ownBlock] using hr
theorem kept_put {β : Type} [Inhabited β] (enc : β → Value) {g n : Nat} {os : Array Obj} (ts : Array β) {S : Nat → Prop} (hg : S g) : Kept w (grow (putRow enc (Sort.ahead w n) g 0 ts) os) S :=
  Kept.of_grown (grownBy_put enc ts) (Kept.refl w S) (fun k hk => .inl (by cases hk; exact hg))
theorem below_put {β : Type} [Inhabited β] (enc : β → Value) {g n : Nat} {os : Array Obj} (ts : Array β) (hB : Below w0.heap.size w0 w) (hg : w0.heap.size ≤ g) : Below w0.heap.size w0 (grow (putRow enc (Sort.ahead w n) g 0 ts) os) :=
  pw_below_grown hB (some g) hB.size (grownBy_put enc ts) (fun k hk => by cases hk; exact hg)
end

end Go.Proofs.Ytanbjngipeblmaa.P
