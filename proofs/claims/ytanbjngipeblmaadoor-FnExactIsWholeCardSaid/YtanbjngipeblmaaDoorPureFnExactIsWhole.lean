import Derived.Test.YtanbjngipeblmaaDoorQFnExactIsWhole
import Derived.Test.YtanbjngipeblmaaDoorBParityP
import Derived.Laws.Strings
import Derived.Lib.SlTrimSet
import Derived.Test.YtanbjngipeblmaaDoorPf5
import Derived.Test.YtanbjngipeblmaaDoorPf7
namespace Go.Proofs.YtanbjngipeblmaaDoor.Pure
open Go.RowKit Go.Proofs.YtanbjngipeblmaaDoor.P Go.Proofs.YtanbjngipeblmaaDoorW.PrintWords Go.Proofs.YtanbjngipeblmaaDoorW.PrintLast Go.Proofs.YtanbjngipeblmaaDoor.Opn
set_option linter.unusedVariables false
set_option linter.unusedSimpArgs false

theorem xor_len : ∀ k : Nat, (∀ x5 x11 x12 x13 t, spec_l12Xor.l0 k x5 x11 x12 x13 = some t → ∃ y : List Int, y.length = x5.length ∧ t = strOfNums y) ∧ (∀ x5 x7 x11 x12 x13 x18 x19 t, spec_l12Xor.l1 k x5 x7 x11 x12 x13 x18 x19 = some t → ∃ y : List Int, y.length = x5.length ∧ t = strOfNums y) := by
  intro k
  induction k with
  | zero => exact ⟨fun _ _ _ _ t h => by simp [spec_l12Xor.l0] at h, fun _ _ _ _ _ _ _ t h => by simp [spec_l12Xor.l1] at h⟩
  | succ k ih =>
    refine ⟨fun x5 x11 x12 x13 t h => ?_, fun x5 x7 x11 x12 x13 x18 x19 t h => ?_⟩
    · rw [spec_l12Xor.l0] at h
      split at h
      · split at h
        · split at h
          · exact ih.2 _ _ _ _ _ _ _ t h
          · cases h
        · cases h
      · exact ⟨x5, rfl, (Option.some.inj h).symm⟩
    · rw [spec_l12Xor.l1] at h
      split at h
      · split at h
        · split at h
          · split at h
            · obtain ⟨y, h1, h2⟩ := ih.2 _ _ _ _ _ _ _ t h
              exact ⟨y, by rw [h1, List.length_set], h2⟩
            · cases h
          · cases h
        · cases h
      · exact ih.1 _ _ _ _ t h
theorem trim_zero (l : List UInt8) : Go.Lib.trimS l [0] = [] ↔ ∀ b, b ∈ l → b = 0 := by
  have hc : ∀ b : UInt8, ([0] : List UInt8).contains b = decide (b = 0) := fun b => by
    by_cases h : b = 0 <;> simp [h]
  have hd : ∀ q : List UInt8, q.dropWhile (fun b => ([0] : List UInt8).contains b) = [] ↔ ∀ b, b ∈ q → b = 0 := by
    intro q
    induction q with
    | nil => simp
    | cons c q ih =>
      rw [List.dropWhile_cons]
      by_cases h : c = 0
      · have e : ([0] : List UInt8).contains c = true := by rw [hc]; exact decide_eq_true h
        rw [if_pos e, ih]
        constructor
        · intro h2 b hb
          rcases List.mem_cons.1 hb with rfl | hb
          · exact h
          · exact h2 b hb
        · exact fun h2 b hb => h2 b (List.mem_cons_of_mem _ hb)
      · have e : ¬ ([0] : List UInt8).contains c = true := by rw [hc, decide_eq_false h]; simp
        rw [if_neg e]
        constructor
        · intro h2
          cases h2
        · exact fun h2 => absurd (h2 c List.mem_cons_self) h
  unfold Go.Lib.trimS Go.Lib.trimLeftS Go.Lib.trimRightS
  rw [hd]
  constructor
  · intro h b hb
    have hr := h
    by_cases hall : ∀ c, c ∈ l → c = 0
    · exact hall b hb
    · exfalso
      have hne : l.reverse.dropWhile (fun b => ([0] : List UInt8).contains b) ≠ [] := fun e => hall fun c hc' => (hd l.reverse).1 e c (List.mem_reverse.2 hc')
      have hhead := List.head_dropWhile_not (fun b => ([0] : List UInt8).contains b) (l := l.reverse) hne
      have hmem := List.head_mem hne
      have := h _ (List.mem_reverse.2 hmem)
      rw [this] at hhead
      simp at hhead
  · intro h b hb
    have := (List.dropWhile_sublist (fun b => ([0] : List UInt8).contains b) (l := l.reverse)).subset (List.mem_reverse.1 hb)
    exact h b (List.mem_reverse.1 this)
theorem zeros_eq (y : List Int) (n : Nat) (hn : y.length = n) : ((strOfNums y).data.toList == (strOfNums (List.replicate n 0)).data.toList) = decide (∀ b, b ∈ (strOfNums y).data.toList → b = 0) := by
  have e0 : (strOfNums (List.replicate n 0)).data.toList = List.replicate n 0 := by
    rw [strOfNums_data, List.map_replicate]
    rfl
  have el : (strOfNums y).data.toList.length = n := by rw [strOfNums_data, List.length_map, hn]
  rw [e0]
  by_cases h : ∀ b, b ∈ (strOfNums y).data.toList → b = 0
  · rw [decide_eq_true h, beq_iff_eq]
    exact List.eq_replicate_iff.2 ⟨el, h⟩
  · rw [decide_eq_false h, beq_eq_false_iff_ne]
    intro e
    exact h fun b hb => by rw [e] at hb; exact List.eq_of_mem_replicate hb
theorem isWhole_both (l : List ByteArray) (hn : l.length ≤ 1048576) (k : Nat) (hk : l.length + 1000 < k) : ∃ a b, spec_IsWhole.f k l = some (a, b) ∧ impl_IsWhole.f k l = some (a, b) := by
  unfold spec_IsWhole.f impl_IsWhole.f impl_ParityOf.f
  rw [spec_pieces l hn k (by omega), impl_pieces]
  simp only [Option.bind_some]
  by_cases hp : areP l = true
  · obtain ⟨h1, h2, h3, h4⟩ := areP_facts l hp
    have hm : l.length * ((rdOf ByteArray.empty l 0).size + 3) ≤ 8 * 19 := Nat.mul_le_mul h2 (by omega)
    obtain ⟨t, ht⟩ := xor_some l _ (by omega) (by omega) h4 k (by omega)
    obtain ⟨y, hy, rfl⟩ : ∃ y : List Int, y.length = (rdOf ByteArray.empty l 0).size ∧ t = strOfNums y := by
      have ht' := ht
      unfold spec_l12Xor.f at ht'
      rw [if_pos (by omega), if_pos (by omega)] at ht'
      obtain ⟨y, h5, h6⟩ := (xor_len k).1 _ _ _ _ t ht'
      exact ⟨y, by simpa using h5, h6⟩
    have hT : strings_Trim.f (strOfNums y) (⟨#[0]⟩ : ByteArray) = some ⟨(Go.Lib.trimS (strOfNums y).data.toList [0]).toArray⟩ := by
      unfold strings_Trim.f
      rw [if_pos ⟨by rw [strOfNums_size]; omega, by decide⟩, if_pos (by decide)]
    rw [if_pos hp, if_pos hp, if_pos (by omega), if_pos (by omega), par_same, ht]
    simp only [Option.bind_some]
    rw [if_pos (by omega), if_pos (by omega), if_true, hT, Option.bind_some]
    refine ⟨_, _, rfl, ?_⟩
    congr 2
    rw [Go.ByteArray.toList_eq, Go.ByteArray.toList_eq, Go.ByteArray.toList_eq, Int.toNat_natCast, zeros_eq y _ hy]
    by_cases h : ∀ b, b ∈ (strOfNums y).data.toList → b = 0
    · have e := (trim_zero _).2 h
      rw [decide_eq_true h]
      show ((Go.Lib.trimS (strOfNums y).data.toList [0]).toArray.toList == []) = true
      rw [e]
      rfl
    · rw [decide_eq_false h]
      show ((Go.Lib.trimS (strOfNums y).data.toList [0]).toArray.toList == []) = false
      rw [beq_eq_false_iff_ne]
      exact fun e => h ((trim_zero _).1 (by simpa using e))
  · rw [if_neg hp, if_neg hp]
    simp only [Option.bind_some]
    rw [if_neg (by simp)]
    exact ⟨_, _, rfl, rfl⟩
theorem FnExactIsWhole : laws_FnExactIsWhole.Pure := by
  intro l hw
  by_cases hs : (l.length : Int) + tot l ≤ 1048576
  · obtain ⟨k, hk⟩ : ∃ k : Nat, 2500000 < k := ⟨2500001, by omega⟩
    refine ⟨k + 1, ?_⟩
    have g : l.length ≤ 1048576 := by omega
    obtain ⟨r, hr, hr0⟩ := szStringS_ok l hw.2 hs (k + 1) (by omega)
    obtain ⟨a, b, h1, h2⟩ := isWhole_both l g (k + 1) (by omega)
    unfold laws_FnExactIsWhole.f
    rw [hr, Option.bind_some, if_neg (by omega)]
    simp only [toStringS l g (k + 1) (by omega), Option.bind_some, h1, h2, bne_self_eq_false]
    rw [if_neg (by simp), laws_FnExactIsWhole.j0]
    simp only [Bool.false_eq_true, if_false, toStringS l g k (by omega), Option.bind_some, eqStringS l g k (by omega), if_true]
  · obtain ⟨k, hk⟩ := szStringS_big l hw.2 hw.1 hs
    refine ⟨k, ?_⟩
    unfold laws_FnExactIsWhole.f
    rw [hk, Option.bind_some, if_pos (by omega)]

end Go.Proofs.YtanbjngipeblmaaDoor.Pure
