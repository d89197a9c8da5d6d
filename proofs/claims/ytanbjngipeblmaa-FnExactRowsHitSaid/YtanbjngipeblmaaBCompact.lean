import Derived.Lib.SlicesCompact
import Derived.Test.YtanbjngipeblmaaBAsc
namespace Go.Proofs.Ytanbjngipeblmaa.Pure
open Go.RowKit Go.Proofs.Ytanbjngipeblmaa.P Go.Proofs.YtanbjngipeblmaaW.PrintWords Go.Proofs.YtanbjngipeblmaaW.PrintLast Go.Proofs.Ytanbjngipeblmaa.Opn
set_option linter.unusedVariables false
set_option linter.unusedSimpArgs false

theorem compact_ok (l : List Int) (h : l.Pairwise (· ≤ ·)) : (Go.Lib.compact l).Pairwise (· < ·) ∧ ∀ n, n ∈ Go.Lib.compact l ↔ n ∈ l := by
  have hget : ∀ j, j < l.length → l.toArray[j]! = l[j]! := fun j hj => by simp
  have hmono : ∀ i j, i ≤ j → j < l.length → l.toArray[i]! ≤ l.toArray[j]! := by
    intro i j hij hj
    rcases Nat.lt_or_eq_of_le hij with h1 | h1
    · have := (List.pairwise_iff_getElem.1 h) i j (by omega) hj h1
      rw [hget i (by omega), hget j hj, getElem!_pos l i (by omega), getElem!_pos l j hj]
      exact this
    · subst h1
      exact Int.le_refl _
  refine ⟨?_, fun n => ⟨fun hn => ?_, fun hn => ?_⟩⟩
  · unfold Go.Lib.compact Go.Lib.compactUpTo
    rw [List.pairwise_map]
    refine List.Pairwise.imp_of_mem (fun {a b} ha hb hab => ?_) (List.Pairwise.filter (p := Go.Lib.keeps l.toArray) (List.pairwise_lt_range (n := l.length)))
    have hb1 := List.mem_filter.1 hb
    have hbl := List.mem_range.1 hb1.1
    have hk := of_decide_eq_true hb1.2
    rcases hk with hk | hk
    · omega
    · have h1 := hmono a (b - 1) (by omega) (by omega)
      have h2 := hmono (b - 1) b (by omega) hbl
      omega
  · obtain ⟨j, hj, rfl⟩ := List.mem_map.1 hn
    have hjl := List.mem_range.1 (List.mem_filter.1 hj).1
    rw [hget j hjl, getElem!_pos l j hjl]
    exact List.getElem_mem hjl
  · obtain ⟨j, hj, rfl⟩ := List.getElem_of_mem hn
    have key : ∀ j, j < l.length → l.toArray[j]! ∈ Go.Lib.compact l := by
      intro j
      induction j with
      | zero =>
        intro h0
        refine List.mem_map.2 ⟨0, List.mem_filter.2 ⟨List.mem_range.2 h0, ?_⟩, rfl⟩
        exact decide_eq_true (.inl rfl)
      | succ j ih =>
        intro hj
        by_cases e : l.toArray[j + 1]! = l.toArray[j]!
        · rw [e]
          exact ih (by omega)
        · exact List.mem_map.2 ⟨j + 1, List.mem_filter.2 ⟨List.mem_range.2 hj, decide_eq_true (.inr (by simpa using e))⟩, rfl⟩
    have := key j hj
    rwa [hget j hj, getElem!_pos l j hj] at this
theorem sort_ok (l : List Int) : (l.mergeSort fun x y => decide (x ≤ y)).Pairwise (· ≤ ·) ∧ ∀ n, n ∈ (l.mergeSort fun x y => decide (x ≤ y)) ↔ n ∈ l := by
  refine ⟨?_, fun n => (List.mergeSort_perm l _).mem_iff⟩
  have := List.pairwise_mergeSort (le := fun x y : Int => decide (x ≤ y)) (fun a b c h1 h2 => decide_eq_true (by have := of_decide_eq_true h1; have := of_decide_eq_true h2; omega)) (fun a b => by
    rcases Int.le_total a b with h | h
    · simp [h]
    · simp [h]) l
  exact this.imp fun h => of_decide_eq_true h

end Go.Proofs.Ytanbjngipeblmaa.Pure
