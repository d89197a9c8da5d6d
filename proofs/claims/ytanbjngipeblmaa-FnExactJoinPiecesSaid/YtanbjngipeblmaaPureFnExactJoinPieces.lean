import Derived.Test.YtanbjngipeblmaaQFnExactJoinPieces
import Derived.Test.YtanbjngipeblmaaBParity
import Derived.Test.YtanbjngipeblmaaPf29
import Derived.Test.YtanbjngipeblmaaPf30
namespace Go.Proofs.Ytanbjngipeblmaa.Pure
open Go.RowKit Go.Proofs.Ytanbjngipeblmaa.P Go.Proofs.YtanbjngipeblmaaW.PrintWords Go.Proofs.YtanbjngipeblmaaW.PrintLast Go.Proofs.Ytanbjngipeblmaa.Opn
set_option linter.unusedVariables false
set_option linter.unusedSimpArgs false

theorem join_flat : ∀ l : List (List UInt8), Go.Lib.join l [] = l.flatten := by
  intro l
  induction l with
  | nil => rfl
  | cons x l ih =>
    cases l with
    | nil => simp [Go.Lib.join]
    | cons y r =>
      have : Go.Lib.join (x :: y :: r) [] = x ++ ([] ++ Go.Lib.join (y :: r) []) := by simp [Go.Lib.join]
      rw [this, ih]
      simp
def cat (l : List ByteArray) (a : ByteArray) : ByteArray := l.foldl (fun a x => a ++ x) a
theorem cat_data : ∀ (l : List ByteArray) (a : ByteArray), (cat l a).data.toList = a.data.toList ++ (l.map (·.data.toList)).flatten := by
  intro l
  induction l with
  | nil => intro a; simp [cat]
  | cons x l ih =>
    intro a
    have : cat (x :: l) a = cat l (a ++ x) := rfl
    rw [this, ih]
    simp
theorem cat_join (l : List ByteArray) : (⟨(Go.Lib.join (l.map (·.data.toList)) (ByteArray.mk #[]).data.toList).toArray⟩ : ByteArray) = cat l ⟨#[]⟩ := by
  have h := cat_data l ⟨#[]⟩
  have e : (ByteArray.mk #[]).data.toList = ([] : List UInt8) := rfl
  rw [e, join_flat]
  rw [e, List.nil_append] at h
  rw [← h]
theorem cat_size : ∀ (l : List ByteArray) (a : ByteArray), (cat l a).size = a.size + tot l := by
  intro l
  induction l with
  | nil => intro a; simp [cat, tot]
  | cons x l ih =>
    intro a
    have : cat (x :: l) a = cat l (a ++ x) := rfl
    rw [this, ih, ByteArray.size_append, tot]
    omega
theorem flat_len (l : List ByteArray) : (l.map (·.data.toList)).flatten.length = tot l := by
  have h := cat_size l ⟨#[]⟩
  have h2 := cat_data l ⟨#[]⟩
  have h3 := congrArg List.length h2
  have e : (ByteArray.mk #[]).data.toList = ([] : List UInt8) := rfl
  rw [e, List.nil_append] at h3
  rw [← h3]
  have e2 : (ByteArray.mk #[]).size = 0 := rfl
  rw [e2] at h
  rw [Nat.zero_add] at h
  rw [← h]
  rfl
theorem join_val (l : List ByteArray) (hl : l.length ≤ 1048576) (ht : tot l ≤ 1048576) : strings_Join.f l (⟨#[]⟩ : ByteArray) = some (cat l ⟨#[]⟩) := by
  unfold strings_Join.f
  have e : (ByteArray.mk #[]).data.toList = ([] : List UInt8) := rfl
  rw [if_pos ⟨by omega, by rw [e, join_flat, flat_len]; omega⟩, cat_join]
theorem spec_join_l0 (a : Int) (l : List ByteArray) (hl : l.length ≤ 1048576) : ∀ (d k i : Nat) (x : ByteArray), i + d = l.length → d < k → x.size + tot (l.drop i) ≤ 2097152 → spec_JoinPieces.l0 k a x l (l.length : Int) (i : Int) = (if 0 ≤ a then (if a ≤ ((cat (l.drop i) x).size : Int) then some ((cat (l.drop i) x).extract 0 a.toNat, true) else none) else none) := by
  intro d
  induction d with
  | zero =>
    intro k i x h hk hx
    obtain ⟨k, rfl⟩ := round hk
    rw [spec_JoinPieces.l0, if_neg (by omega), List.drop_of_length_le (by omega)]
    rfl
  | succ d ih =>
    intro k i x h hk hx
    obtain ⟨k, rfl⟩ := round hk
    have e : ((i + 1 : Nat) : Int) = (i : Int) + 1 := by omega
    rw [drop_rdS l i (by omega), tot] at hx
    rw [spec_JoinPieces.l0, if_pos (by omega), if_pos (by omega), if_pos (by omega), if_pos (by omega), wrap_id (x := (i : Int) + 1) (by omega) (by omega), ← e, ih k (i + 1) _ (by omega) (by omega) (by rw [ByteArray.size_append]; omega), drop_rdS l i (by omega)]
    rfl
theorem tot_eq (n : Nat) : ∀ l : List ByteArray, (∀ x, x ∈ l → x.size = n) → tot l = l.length * n := by
  intro l
  induction l with
  | nil => intro _; simp [tot]
  | cons x l ih =>
    intro h
    rw [tot, h x (List.mem_cons_self ..), ih (fun y hy => h y (List.mem_cons_of_mem _ hy)), List.length_cons, Nat.succ_mul]
    omega
theorem both_join (l : List ByteArray) (a : Int) (hn : l.length ≤ 1048576) (ht : tot l ≤ 1048576) (k : Nat) (hk : l.length + 1000 < k) : ∃ q, spec_JoinPieces.f k l a = some q ∧ impl_JoinPieces.f l a = some q := by
  obtain ⟨k, rfl⟩ := round (d := 0) (k := k) (by omega)
  unfold spec_JoinPieces.f impl_JoinPieces.f
  rw [spec_pieces l hn (k + 1) (by omega), impl_pieces, join_val l hn ht]
  simp only [Option.bind_some]
  by_cases hp : areP l = true
  · obtain ⟨h1, h2, h3, h4⟩ := areP_facts l hp
    have hs : (cat l ⟨#[]⟩).size = tot l := by
      rw [cat_size]
      have e2 : (ByteArray.mk #[]).size = 0 := rfl
      omega
    have hc : (l.length : Int) * ((rdOf ByteArray.empty l 0).size : Int) = ((tot l : Nat) : Int) := by
      rw [tot_eq _ l h4]
      push_cast
      rfl
    rw [if_pos hp, if_pos hp, if_pos (by omega), hc, wrap_id (by omega) (by omega), spec_in, impl_in_, hs, Option.bind_some, Option.bind_some, spec_JoinPieces.j0]
    by_cases ha : 0 ≤ a ∧ a ≤ ((tot l : Nat) : Int)
    · rw [decide_eq_true ha, if_neg (by decide), if_pos rfl]
      have hx := spec_join_l0 a l hn l.length k 0 ⟨#[]⟩ (by omega) (by omega) (by
        have e2 : (ByteArray.mk #[]).size = 0 := rfl
        rw [List.drop_zero, e2]
        omega)
      rw [show ((0 : Nat) : Int) = 0 from rfl, List.drop_zero, hs] at hx
      rw [hx, if_pos ha.1, if_pos ha.2]
      exact ⟨_, rfl, rfl⟩
    · rw [decide_eq_false ha, if_pos (by decide), if_neg (by decide)]
      exact ⟨_, rfl, rfl⟩
  · rw [if_neg hp, if_neg hp, spec_JoinPieces.j0, if_pos rfl]
    exact ⟨_, rfl, rfl⟩
theorem FnExactJoinPieces : laws_FnExactJoinPieces.Pure := by
  intro l a hw _
  by_cases hs : (l.length : Int) + tot l ≤ 1048576
  · obtain ⟨k, hk⟩ : ∃ k : Nat, 2500000 < k := ⟨2500001, by omega⟩
    refine ⟨k + 1, ?_⟩
    have g : l.length ≤ 1048576 := by omega
    obtain ⟨r, hr, hr0⟩ := szStringS_ok l hw.2 hs (k + 1) (by omega)
    obtain ⟨q, h1, h2⟩ := both_join l a g (by omega) (k + 1) (by omega)
    unfold laws_FnExactJoinPieces.f
    rw [hr, Option.bind_some, if_neg (by omega)]
    simp only [toStringS l g (k + 1) (by omega), Option.bind_some, h1, h2, if_true, bne_self_eq_false]
    rw [laws_FnExactJoinPieces.j0]
    simp only [Bool.false_eq_true, if_false, toStringS l g k (by omega), Option.bind_some, eqStringS l g k (by omega), if_true]
  · obtain ⟨k, hk⟩ := szStringS_big l hw.2 hw.1 hs
    refine ⟨k, ?_⟩
    unfold laws_FnExactJoinPieces.f
    rw [hk, Option.bind_some, if_pos (by omega)]

end Go.Proofs.Ytanbjngipeblmaa.Pure
