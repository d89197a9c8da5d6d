import Derived.Test.YtanbjngipeblmaaBL
namespace Go.Proofs.Ytanbjngipeblmaa.Pure
open Go.RowKit Go.Proofs.Ytanbjngipeblmaa.P Go.Proofs.YtanbjngipeblmaaW.PrintWords Go.Proofs.YtanbjngipeblmaaW.PrintLast Go.Proofs.Ytanbjngipeblmaa.Opn
set_option linter.unusedVariables false
set_option linter.unusedSimpArgs false

/-- Two lists that rise strictly and hold the same numbers are one. -/
theorem asc_uniq : ∀ (l1 l2 : List Int), l1.Pairwise (· < ·) → l2.Pairwise (· < ·) → (∀ n, n ∈ l1 ↔ n ∈ l2) → l1 = l2 := by
  intro l1
  induction l1 with
  | nil =>
    intro l2 _ _ hc
    cases l2 with
    | nil => rfl
    | cons y s => exact absurd ((hc y).2 List.mem_cons_self) (by simp)
  | cons x t ih =>
    intro l2 h1 h2 hc
    cases l2 with
    | nil => exact absurd ((hc x).1 List.mem_cons_self) (by simp)
    | cons y s =>
      have p1 := List.pairwise_cons.1 h1
      have p2 := List.pairwise_cons.1 h2
      have e : x = y := by
        rcases List.mem_cons.1 ((hc x).1 List.mem_cons_self) with h | h
        · exact h
        · rcases List.mem_cons.1 ((hc y).2 List.mem_cons_self) with h' | h'
          · exact h'.symm
          · have := p2.1 x h
            have := p1.1 y h'
            omega
      subst e
      congr 1
      refine ih s p1.2 p2.2 fun n => ⟨fun h => ?_, fun h => ?_⟩
      · rcases List.mem_cons.1 ((hc n).1 (List.mem_cons_of_mem _ h)) with h' | h'
        · have := p1.1 n h
          omega
        · exact h'
      · rcases List.mem_cons.1 ((hc n).2 (List.mem_cons_of_mem _ h)) with h' | h'
        · have := p2.1 n h
          omega
        · exact h'
def cmpAux (p : Int) : List Int → List Int
  | [] => []
  | x :: l => if x = p then cmpAux p l else x :: cmpAux x l
/-- A list without those that equal the one ahead. -/
def cmpI : List Int → List Int
  | [] => []
  | x :: l => x :: cmpAux x l
theorem cmpAux_ok : ∀ (l : List Int) (p : Int), l.Pairwise (· ≤ ·) → (∀ x, x ∈ l → p ≤ x) → (cmpAux p l).Pairwise (· < ·) ∧ (∀ z, z ∈ cmpAux p l → p < z) ∧ (∀ n, n ∈ p :: cmpAux p l ↔ n ∈ p :: l) := by
  intro l
  induction l with
  | nil => exact fun p _ _ => ⟨List.Pairwise.nil, fun z hz => (by simp [cmpAux] at hz), fun n => Iff.rfl⟩
  | cons x l ih =>
    intro p h hp
    have q := List.pairwise_cons.1 h
    have hx := hp x List.mem_cons_self
    by_cases e : x = p
    · subst e
      have := ih x q.2 q.1
      rw [cmpAux, if_pos rfl]
      refine ⟨this.1, this.2.1, fun n => ?_⟩
      rw [this.2.2 n]
      simp
    · have := ih x q.2 q.1
      rw [cmpAux, if_neg e]
      refine ⟨List.pairwise_cons.2 ⟨this.2.1, this.1⟩, fun z hz => ?_, fun n => ?_⟩
      · rcases List.mem_cons.1 hz with rfl | hz
        · omega
        · have := this.2.1 z hz
          omega
      · rw [List.mem_cons, this.2.2 n]
        simp
theorem cmpI_ok (l : List Int) (h : l.Pairwise (· ≤ ·)) : (cmpI l).Pairwise (· < ·) ∧ ∀ n, n ∈ cmpI l ↔ n ∈ l := by
  cases l with
  | nil => exact ⟨List.Pairwise.nil, fun n => Iff.rfl⟩
  | cons x l =>
    have q := List.pairwise_cons.1 h
    have := cmpAux_ok l x q.2 q.1
    exact ⟨List.pairwise_cons.2 ⟨this.2.1, this.1⟩, this.2.2⟩
theorem asc_of_le {l : List Int} (h : l.Pairwise (· ≤ ·)) (hn : l.Nodup) : l.Pairwise (· < ·) := by
  induction l with
  | nil => exact List.Pairwise.nil
  | cons x l ih =>
    have q := List.pairwise_cons.1 h
    have n := List.nodup_cons.1 hn
    refine List.pairwise_cons.2 ⟨fun z hz => ?_, ih q.2 n.2⟩
    have := q.1 z hz
    rcases Int.lt_or_eq_of_le this with h | h
    · exact h
    · exact absurd (h ▸ hz) n.1
theorem nodup_of_asc {l : List Int} (h : l.Pairwise (· < ·)) : l.Nodup := h.imp (fun h e => by omega)

end Go.Proofs.Ytanbjngipeblmaa.Pure
