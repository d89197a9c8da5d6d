import Derived.Test.YtgdpkkmjjmmimaaBCh
import Derived.Test.YtgdpkkmjjmmimaaPf15
import Derived.Test.YtgdpkkmjjmmimaaPf16
namespace Go.Proofs.Ytgdpkkmjjmmimaa.Pure
open Go.RowKit Go.Proofs.Ytgdpkkmjjmmimaa.P Go.Proofs.YtgdpkkmjjmmimaaW.PrintWords Go.Proofs.YtgdpkkmjjmmimaaW.PrintLast Go.Proofs.Ytgdpkkmjjmmimaa.Opn
set_option linter.unusedVariables false
set_option linter.unusedSimpArgs false

theorem mx_le (a b : Int) : mx a b = if a ≤ b then b else a := by unfold mx; split <;> split <;> omega
theorem foldl_mx_mem (l : List Int) : ∀ (b : Int), l.foldl (fun m y => mx m y) b ∈ b :: l ∧ ∀ z ∈ b :: l, z ≤ l.foldl (fun m y => mx m y) b := by
  induction l with
  | nil => intro b; simp
  | cons x l ih =>
    intro b
    have h := ih (mx b x)
    have e := mx_le b x
    simp only [List.foldl_cons, List.mem_cons, forall_eq_or_imp] at h ⊢
    refine ⟨?_, ?_, ?_, h.2.2⟩
    · split at e <;> rcases h.1 with h1 | h1 <;> simp_all
    · split at e <;> omega
    · split at e <;> omega
theorem max_of (y : List Int) (m : Int) (h0 : m ∈ y) (h1 : ∀ z ∈ y, z ≤ m) : slices_Max_int_int.f y = some m := by
  unfold slices_Max_int_int.f
  cases y with
  | nil => simp at h0
  | cons b l =>
    rw [if_neg (by simp)]
    have h := foldl_mx_mem l b
    have e : rd (b :: l) 0 = b := rfl
    rw [e]
    simp only [List.drop_succ_cons, List.drop_zero]
    have a1 := h1 _ h.1
    have a2 := h.2 _ h0
    congr 1
    omega
theorem mem_set_ne (y : List Int) (c : Nat) (v m : Int) (hc : c < y.length) (h : m ∈ y) (hne : m ≠ y[c]) : m ∈ y.set c v := by
  obtain ⟨j, hj, e⟩ := List.getElem_of_mem h
  have : c ≠ j := by rintro rfl; exact hne e.symm
  have e2 : (y.set c v)[j]'(by simpa using hj) = m := by rw [List.getElem_set_ne this, e]
  rw [← e2]
  exact List.getElem_mem _
theorem spanSim (l c : List Int) (hl : l.length ≤ 8) (hv : ∀ x ∈ l, 1 ≤ x ∧ x ≤ 50) (hc : c.length = l.length) (n : Nat) (hn : ∀ x ∈ c, 0 ≤ x ∧ x < n) :
    ∀ (d k k' i : Nat) (y : List Int) (m : Int), i + d = l.length → d < k → d < k' → y.length = n → (∀ z ∈ y, 0 ≤ z ∧ z ≤ 50 * i ∧ z ≤ m) → m ∈ y →
      ∃ r y', spec_l14Span.l0 k l y m c (c.length : Int) (i : Int) = some r ∧ impl_loads.l0 k' c y l (l.length : Int) (i : Int) = some y' ∧ r ∈ y' ∧ ∀ z ∈ y', z ≤ r := by
  intro d
  induction d with
  | zero =>
    intro k k' i y m hi hk hk' hy hb hm
    obtain ⟨k, rfl⟩ := round hk
    obtain ⟨k', rfl⟩ := round hk'
    refine ⟨m, y, ?_, ?_, hm, fun z h => (hb z h).2.2⟩
    · simp only [spec_l14Span.l0]
      rw [if_neg (by omega)]
    · simp only [impl_loads.l0]
      rw [if_neg (by omega)]
  | succ d ih =>
    intro k k' i y m hi hk hk' hy hb hm
    obtain ⟨k, rfl⟩ := round hk
    obtain ⟨k', rfl⟩ := round hk'
    have hx := hv _ (rd_mem l i (by omega))
    have hq := hn _ (rd_mem c i (by omega))
    obtain ⟨q, hq'⟩ : ∃ q : Nat, rd c (i : Int) = (q : Int) := ⟨(rd c (i : Int)).toNat, by omega⟩
    have hqn : q < y.length := by omega
    have hz := hb _ (rd_mem y q hqn)
    simp only [spec_l14Span.l0, impl_loads.l0, hq']
    rw [if_pos (by omega), if_pos (by omega), if_pos (by omega), if_pos (by omega), if_pos (by omega), if_pos (by omega), most_eq, Option.bind_some,
      if_pos (by omega), if_pos (by omega), if_pos (by omega), if_pos (by omega), if_pos (by omega), if_pos (by omega),
      wrap_id (x := (i : Int) + 1) (by omega) (by omega), wrap_id (x := rd y (q : Int) + rd l (i : Int)) (by omega) (by omega)]
    have e := mx_le (rd y (q : Int) + rd l (i : Int)) m
    have := ih k k' (i + 1) (y.set q (rd y (q : Int) + rd l (i : Int))) (mx (rd y (q : Int) + rd l (i : Int)) m) (by omega) (by omega) (by omega) (by simpa using hy)
      (by
        intro z hz'
        rcases List.mem_or_eq_of_mem_set hz' with h | h
        · have := hb z h
          split at e <;> (push_cast; omega)
        · subst h
          split at e <;> (push_cast; omega))
      (by
        rw [e]
        split
        · rename_i hle
          refine mem_set_ne y q _ m hqn hm ?_
          rw [← rd_nat y q hqn]
          omega
        · exact List.mem_set hqn _)
    simpa using this
theorem spanBoth (l c : List Int) (a : Int) (hl : l.length ≤ 8) (hv : ∀ x ∈ l, 1 ≤ x ∧ x ≤ 50) (ha : 1 ≤ a ∧ a ≤ 4) (hc : c.length = l.length) (hn : ∀ x ∈ c, 0 ≤ x ∧ x ≤ a - 1) (k k' : Nat) (hk : l.length < k) (hk' : l.length < k') :
    ∃ r, spec_l14Span.f k l a c = some r ∧ ∃ y, impl_loads.f k' l a c = some y ∧ slices_Max_int_int.f y = some r := by
  have := spanSim l c hl hv hc a.toNat (fun x h => by have := hn x h; omega) l.length k k' 0 (List.replicate a.toNat 0) 0 (by omega) hk hk' (by simp)
    (by intro z h; have := List.eq_of_mem_replicate h; omega) (by simp; omega)
  obtain ⟨r, y, h1, h2, h3, h4⟩ := this
  refine ⟨r, ?_, y, ?_, max_of y r h3 h4⟩
  · unfold spec_l14Span.f
    rw [if_pos (by omega), if_pos (by omega)]
    exact h1
  · unfold impl_loads.f
    rw [if_pos (by omega), if_pos (by omega)]
    exact h2

end Go.Proofs.Ytgdpkkmjjmmimaa.Pure
