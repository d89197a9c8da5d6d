-- Made by pw.py (wip/tools) with the kit's print. Not trusted: Lean checks it.
import Derived.Test.YtanbjngipeblmaaP0
import Derived.Shelf.Spec.SlicesGrow
import Derived.WalkSpells
namespace Go.Proofs.Ytanbjngipeblmaa.P
open Go.RowKit Go.Proofs.YtanbjngipeblmaaW.PrintWords Go.Proofs.YtanbjngipeblmaaW.PrintLast Go.Proofs.YtanbjngipeblmaaW.PrintMore
attribute [local go_sem] max2_int min2_int max_two min_two max_three min_three max_four min_four
set_option linter.unusedVariables false
set_option linter.unusedSimpArgs false

/-! ### slices_Concat_string_string: function 50 (by hand) -/
open Go.Shelf
def slices_Concat_string_string.grow_ren : Go.Shelf.Ren := ⟨fun | 4 => 60 | n => n, fun | 22 => 27 | 25 => 9 | 3 => 3 | 4 => 4 | 9 => 9 | 20 => 20 | 0 => 0 | n => n, fun | n => n⟩
theorem slices_Concat_string_string.grow : Lays8.n4 Try.prog slices_Concat_string_string.grow_ren := {
  mixed := by kernel_rfl
  f4 := ⟨Try.f60.name, by decide, Try.func60.trans (congrArg some (by kernel_rfl))⟩
  t0 := Try.underlying0
  a0 := Try.isAgg0
  z0 := Try.sizeOf0
  v0 := Try.zeroValue0
  t3 := Try.underlying3
  a3 := Try.isAgg3
  z3 := Try.sizeOf3
  v3 := Try.zeroValue3
  t4 := Try.underlying4
  a4 := Try.isAgg4
  z4 := Try.sizeOf4
  v4 := Try.zeroValue4
  t9 := Try.underlying9
  a9 := Try.isAgg9
  z9 := Try.sizeOf9
  v9 := Try.zeroValue9
  t20 := Try.underlying20
  a20 := Try.isAgg20
  z20 := Try.sizeOf20
  v20 := Try.zeroValue20
  t22 := Try.underlying27
  a22 := Try.isAgg27
  z22 := Try.sizeOf27
  v22 := Try.zeroValue27 }


theorem slices_Concat_string_string.infoE : (Try.prog.info? 9).map (fun i => (i.zero, i.size, i.bytes)) = some (some (.string ⟨#[]⟩), Kd.string.sz, 16) := by kernel_rfl
theorem slices_Concat_string_string.row_at {w : World} {A : Option Addr} {n : Nat} {xs : List (List ByteArray)} (h : Kd.C (Kd.slice 9 Kd.string) w A n xs) (j : Nat) (hj : j < n) : ∃ ad A0 c0, A = some ad ∧ w.cell? (ad.add j) = some (.slice A0 (xs.getD j []).length c0) ∧ (xs.getD j []).length ≤ c0 ∧ Kd.C Kd.string w A0 (xs.getD j []).length (xs.getD j []) := by
  obtain ⟨ad, c, e, _, hK, hc0⟩ := Kd.C_get h ([] : List ByteArray) (j : Int) (by omega) (by omega)
  rw [Int.toNat_natCast] at hK hc0
  have hc : ∀ i u, c[i]? = some u → w.cell? (ad.add (j * 1 + i)) = some u := hc0
  obtain ⟨A0, c0, rfl, l0, g0⟩ := hK
  exact ⟨ad, A0, c0, e, by have hq := hc 0 _ rfl; rwa [Nat.mul_one, Nat.add_zero] at hq, l0, g0⟩
theorem slices_Concat_string_string.grow_nil (n : Nat) (w : World) (hn : n * 16 ≤ 140737488355328) :
    Calls Try.prog 60 #[.slice none 0 0, .int .i64 n] w fun e w' => ∃ v, e = .returned v ∧ Kd.R Kd.string 9 w' w.heap.size (fun _ => True) v [] ∧ Below w.heap.size w w' := by
  rcases Nat.eq_zero_or_pos n with h0 | h0
  · subst h0
    exact (Any8.slices_Grow_room slices_Concat_string_string.grow none 0 0 0 w (by omega) (by omega) (by omega) (by omega)).mono fun e w' ⟨he, hw⟩ => ⟨_, he, by rw [hw]; exact Kd.R_nil _ _ _ _ _, by rw [hw]; exact Below.refl _ _⟩
  · obtain ⟨i0, hi, hzz⟩ := Option.map_eq_some_iff.1 slices_Concat_string_string.infoE
    simp only [Prod.mk.injEq] at hzz
    obtain ⟨hz0, hz1, hz2⟩ := hzz
    have hs : 0 < i0.size := by rw [hz1]; decide
    refine (Any8.slices_Grow_grow slices_Concat_string_string.grow i0 _ hi hz0 hs none 0 0 n [] w (by omega) (by omega) (by rw [hz2]; omega) (by omega) (by simp) (fun _ => rfl) (fun a h => by cases h)).mono ?_
    rintro e w' ⟨rfl, rfl⟩
    have hg := grownCap_ge w (0 + n) 0 (slices_Concat_string_string.grow_ren.t 25)
    have hm := grownCap_le_maxLen w (0 + n) 0 (slices_Concat_string_string.grow_ren.t 25) (by unfold maxLen; omega)
    refine ⟨_, rfl, ⟨fun _ _ => trivial, [], ⟨by simp, .inr ⟨w.heap.size, _, _, rfl, Nat.le_refl _, heap_alloc_new w.drew _, by simp, hm, ?_, by simp⟩⟩, Reps.none _ _⟩, below_alloc (below_drew (Below.refl _ _)) _⟩
    simp only [Array.size_append, size_zeroCells, List.size_toArray, List.length_nil]
    have e1 : ((.string ⟨#[]⟩) : Value).cells.size = Kd.string.sz := rfl
    rw [e1, Nat.zero_add, ← Nat.add_mul]
    congr 1
    omega
def slices_Concat_string_string.f (l : List (List ByteArray)) : Option (List ByteArray) := if l.flatten.length ≤ 1099511627776 then some l.flatten else none
theorem slices_Concat_string_string.fl_succ (l : List (List ByteArray)) (k : Nat) (h : k < l.length) : (l.take (k + 1)).flatten = (l.take k).flatten ++ l.getD k [] := by
  rw [List.take_succ_eq_append_getElem h, List.flatten_append]
  simp [List.getD_eq_getElem?_getD, List.getElem?_eq_getElem h]
theorem slices_Concat_string_string.fl_le (l : List (List ByteArray)) (k : Nat) : (l.take k).flatten.length ≤ l.flatten.length := by
  conv => rhs; rw [← List.take_append_drop k l, List.flatten_append, List.length_append]
  omega
set_option maxHeartbeats 1000000 in
set_option maxRecDepth 100000 in
theorem slices_Concat_string_string.calls (A0 : Option Addr) (c0 : Nat) (l0 : List (List ByteArray)) (r : List ByteArray) (w : World) (hr0 : Kd.C (Kd.slice 9 Kd.string) w A0 l0.length l0) (hc0 : l0.length ≤ c0) (h : slices_Concat_string_string.f l0 = some r) :
    Calls Try.prog 50 #[.slice A0 l0.length c0] w fun e w' => ∃ v0_ : Value, e = .returned (v0_) ∧ Kd.R Kd.string 9 w' w.heap.size (fun _ => True) v0_ r ∧ Below w.heap.size w w' := by
  unfold slices_Concat_string_string.f at h
  by_cases hl : l0.flatten.length ≤ 1099511627776
  · rw [if_pos hl] at h
    obtain rfl := Option.some.inj h
    have HN := Aside0.mk hr0.2.1
    have HR := Aside0.mk hr0
    have HL := Aside0.mk hl
    clear hr0 hc0 hl h
    go_enter Try.func50, Try.ntmps50
    go_wp2
    go_loopg [3, 11] l0.length (fun gg s3 s11 wr => ∃ kk : Nat, kk ≤ l0.length ∧ l0.length - kk ≤ gg ∧ s11 = .int .i64 kk ∧ s3 = .int .i64 (((l0.take kk).flatten.length : Nat) : Int) ∧ w = wr)
    case atStart => exact ⟨0, Nat.zero_le _, by omega, rfl, by simp, rfl⟩
    case round =>
      obtain ⟨kk, hkk, hg, rfl, rfl, rfl⟩ := hrel
      have hn := HN.out
      by_cases hlt : kk < l0.length
      · have hltz : (kk : Int) < (l0.length : Int) := by omega
        obtain ⟨ad, A1, c1, e, hx, hc1, hr1⟩ := slices_Concat_string_string.row_at HR.out kk hlt
        cases e
        have hs := congrArg List.length (slices_Concat_string_string.fl_succ l0 kk hlt)
        rw [List.length_append] at hs
        have hb := slices_Concat_string_string.fl_le l0 (kk + 1)
        have hl := HL.out
        have HS := Aside0.mk hs
        rw [hs] at hb
        clear hs hc1 hr1
        generalize (l0.take kk).flatten.length = m at hb HS ⊢
        generalize (l0.getD kk []).length = q at hb HS hx ⊢
        have hmq : m + q ≤ 1099511627776 := by omega
        clear hb hl
        have hnn : ¬ ((m : Int) + (q : Int) < 0) := by omega
        go_wp2
        go_roundg (l0.length - (kk + 1))
        case measure => omega
        case rel => exact ⟨kk + 1, by omega, by omega, by go_num, by rw [HS.out]; push_cast; rfl, rfl⟩
      · have hltz : ¬ (kk : Int) < (l0.length : Int) := by omega
        have hk : kk = l0.length := by omega
        subst hk
        rw [List.take_length]
        have HG := Aside0.mk (slices_Concat_string_string.grow_nil l0.flatten.length w (by have := HL.out; omega))
        generalize l0.flatten.length = T at HG ⊢
        go_wp2_with (go_at_call 60; (with_reducible refine HG.out.mono ?_); rintro e w' ⟨v, rfl, ho, hb⟩; have HO := Aside0.mk ho; have HB := Aside0.mk hb; clear ho hb)
        go_loopg [6, 27] l0.length (fun gg s6 s27 wr => ∃ (kk : Nat) (v : Value), kk ≤ l0.length ∧ l0.length - kk ≤ gg ∧ s27 = .int .i64 kk ∧ s6 = v ∧ Aside0 (Kd.R Kd.string 9 wr w.heap.size (fun _ => True) v (l0.take kk).flatten) ∧ Aside0 (Below w.heap.size w wr))
        case atStart => exact ⟨0, v, Nat.zero_le _, by omega, rfl, rfl, ⟨by simpa using HO.out⟩, HB⟩
        case round =>
          clear HO HB
          obtain ⟨kk, v, hkk, hg, rfl, rfl, HO, HB⟩ := hrel
          have hn := HN.out
          by_cases hlt : kk < l0.length
          · have hltz : (kk : Int) < (l0.length : Int) := by omega
            obtain ⟨ad, A1, c1, e, hx0, hc1, hr1⟩ := slices_Concat_string_string.row_at HR.out kk hlt
            cases e
            have hx := (HB.out.cell (World.block_lt_of_cell? w _ hx0)).trans hx0
            have HR1 := Aside0.mk (Kd.C_below hr1 HB.out)
            have HS := Aside0.mk (slices_Concat_string_string.fl_succ l0 kk hlt)
            have HF := Aside0.mk (slices_Concat_string_string.fl_le l0 (kk + 1))
            clear hx0 hc1 hr1
            generalize l0.getD kk [] = ys at hx HR1 HS
            generalize (l0.take kk).flatten = xs at HO HS
            go_wp2_with ((with_reducible refine gate_builtin (b := .append) (xs := #[.tmp 31, .tmp 32]) rfl ?_); at_builtin; refine Kd.R_append_rows Kd.string (w0 := w) w.heap.size rfl (.tmp 31) (.tmp 32) 27 9 (.string ⟨#[]⟩) 16 rfl Try.underlying27 slices_Concat_string_string.infoE rfl (by decide) (by omega) _ xs ys _ _ _ (fun _ => True) (fun _ => False) rfl rfl HO.out HR1.out (fun _ _ h => h) (fun _ h => h.elim) (fun _ _ => trivial) HB.out HB.out.size (by have h1 := HF.out; have h2 := HL.out; rw [HS.out, List.length_append] at h1; omega) ?_; intro v2 w2 ho hb hg_ hat_; rw [← HS.out] at ho; have HO2 := Aside0.mk ho; have HB2 := Aside0.mk hb; clear ho hb hg_ hat_)
            go_roundg (l0.length - (kk + 1))
            case measure => omega
            case rel => exact ⟨kk + 1, v2, by omega, by omega, by go_num, rfl, HO2, HB2⟩
          · have hltz : ¬ (kk : Int) < (l0.length : Int) := by omega
            have hk : kk = l0.length := by omega
            subst hk
            rw [List.take_length] at HO
            go_wp2
            go_ret
            exact ⟨_, rfl, HO.out, HB.out⟩
  · rw [if_neg hl] at h
    cases h


end Go.Proofs.Ytanbjngipeblmaa.P
