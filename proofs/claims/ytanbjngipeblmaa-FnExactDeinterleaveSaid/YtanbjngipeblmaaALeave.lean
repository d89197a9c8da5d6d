-- Made by pw.py (wip/tools) with the kit's print. Not trusted: Lean checks it.
import Derived.Test.YtanbjngipeblmaaP0
import Derived.Test.YtanbjngipeblmaaAAcross
import Derived.Test.YtanbjngipeblmaaPf41
import Derived.Test.YtanbjngipeblmaaPf49
import Derived.BigQuiet
import Derived.Deep.QuietTactic
namespace Go.Proofs.Ytanbjngipeblmaa.P
open Go.RowKit Go.Proofs.YtanbjngipeblmaaW.PrintWords Go.Proofs.YtanbjngipeblmaaW.PrintLast Go.Proofs.YtanbjngipeblmaaW.PrintMore
attribute [local go_sem] max2_int min2_int max_two min_two max_three min_three max_four min_four
set_option linter.unusedVariables false
set_option linter.unusedSimpArgs false

theorem isSpread_yes (n d : Int) (h : impl_isSpread.f n d = some true) (hn : 0 ≤ n) : n ≤ 120 ∧ 1 ≤ d ∧ d ≤ 12 ∧ n % d = 0 := by
  unfold impl_isSpread.f impl_in.f at h
  by_cases h1 : n ≤ 120
  · by_cases h2 : 1 ≤ d
    · by_cases h3 : d ≤ 12
      · have h0 : ¬ d = 0 := by omega
        simp only [hn, ge_iff_le, if_true, Option.bind_some, h1, decide_true, h2, h3, h0, if_false, Option.some.injEq, beq_iff_eq] at h
        rw [Int.tmod_eq_emod_of_nonneg hn] at h
        exact ⟨h1, h2, h3, h⟩
      · simp [hn, h1, h2, h3] at h
    · simp [hn, h1, h2] at h
  · simp [hn, h1] at h
def ilF (n d i : Int) : Option Int := if 0 ≤ i ∧ i < n then some (i % d * (n / d) + i / d) else none
def dlF (l d i : Int) : Option Int := if 0 ≤ i ∧ i < l * d then some (i % l * d + i / l) else none
theorem mul_bd (a b : Int) (x y : Int) (h0 : 0 ≤ a) (h1 : a ≤ x) (h2 : 0 ≤ b) (h3 : b ≤ y) : 0 ≤ a * b ∧ a * b ≤ x * y := ⟨Int.mul_nonneg h0 h2, Int.mul_le_mul h1 h3 h2 (Int.le_trans h0 h1)⟩
theorem w64_id {x : Int} (h0 : -9223372036854775808 ≤ x) (h1 : x ≤ 9223372036854775807) : wrap64 x = x := by
  unfold wrap64
  omega
theorem il_val (n d i : Int) (h0 : 0 ≤ i) (h1 : i < n) (hn : n ≤ 120) (hd : 1 ≤ d) (hd2 : d ≤ 12) : wrap64 (wrap64 (Int.tmod i d * wrap64 (n / d)) + wrap64 (Int.tdiv i d)) = i % d * (n / d) + i / d := by
  rw [Int.tmod_eq_emod_of_nonneg h0, Int.tdiv_eq_ediv_of_nonneg h0]
  have a1 := Int.emod_nonneg i (show d ≠ 0 by omega)
  have a2 := Int.emod_lt_of_pos i (show 0 < d by omega)
  have a3 : 0 ≤ n / d := Int.ediv_nonneg (by omega) (by omega)
  have a4 : n / d ≤ 120 := Int.le_trans (Int.ediv_le_self _ (by omega)) hn
  have a5 : 0 ≤ i / d := Int.ediv_nonneg (by omega) (by omega)
  have a6 : i / d ≤ 120 := Int.le_trans (Int.ediv_le_self _ (by omega)) (by omega)
  obtain ⟨m1, m2⟩ := mul_bd (i % d) (n / d) 12 120 a1 (by omega) a3 a4
  rw [w64_id (x := n / d) (by omega) (by omega), w64_id (x := i / d) (by omega) (by omega), w64_id (x := i % d * (n / d)) (by omega) (by omega), w64_id (by omega) (by omega)]
theorem dl_val (l d i : Int) (h0 : 0 ≤ i) (h1 : i < 121) (hl : 1 ≤ l) (hd : 1 ≤ d) (hd2 : d ≤ 12) (hl2 : l ≤ 120) : wrap64 (wrap64 (Int.tmod i l * d) + wrap64 (Int.tdiv i l)) = i % l * d + i / l := by
  rw [Int.tmod_eq_emod_of_nonneg h0, Int.tdiv_eq_ediv_of_nonneg h0]
  have a1 := Int.emod_nonneg i (show l ≠ 0 by omega)
  have a2 := Int.emod_lt_of_pos i (show 0 < l by omega)
  have a5 : 0 ≤ i / l := Int.ediv_nonneg (by omega) (by omega)
  have a6 : i / l ≤ 120 := Int.le_trans (Int.ediv_le_self _ (by omega)) (by omega)
  obtain ⟨m1, m2⟩ := mul_bd (i % l) d 120 12 a1 (by omega) (by omega) hd2
  rw [w64_id (x := i / l) (by omega) (by omega), w64_id (x := i % l * d) (by omega) (by omega), w64_id (by omega) (by omega)]
theorem ret_int' {k : IntKind} {a b : Int} (h : a = b) : Ending.returned (.int k a) = .returned (.int k b) := by rw [h]
set_option maxHeartbeats 2000000 in
theorem il_gives (Bd Bs : Nat) (s : ByteArray) (d : Int) (w : World) (hd : 1 ≤ d) (hd2 : d ≤ 12) (hs : (s.size : Int) ≤ 120) (h1 : Bd < w.heap.size) (h2 : Bs < w.heap.size) (hc1 : w.cell? ⟨Bd, 0, none⟩ = some (.int .i64 d)) (hc2 : w.cell? ⟨Bs, 0, none⟩ = some (.string s)) :
    GivesI 43 #[.pointer (some ⟨Bd, 0, none⟩), .pointer (some ⟨Bs, 0, none⟩)] (ilF (s.size : Int) d) w := by
  intro W i r hb hF
  unfold ilF at hF
  split at hF
  · rename_i hi
    obtain rfl := Option.some.inj hF
    clear hF
    have hv := Aside0.mk (il_val (s.size : Int) d i hi.1 hi.2 hs hd hd2)
    have hc1' := (hb.cell (p := ⟨Bd, 0, none⟩) h1).trans hc1
    have hc2' := (hb.cell (p := ⟨Bs, 0, none⟩) h2).trans hc2
    have hz : ¬ d = 0 := by omega
    have hz2 : (d == 0) = false := by simpa using hz
    have hz3 : decide (d = 0) = false := by simpa using hz
    clear hc1 hc2 hb h1 h2 hi hs hd hd2
    show Calls Try.prog 43 #[.int .i64 i, .pointer (some ⟨Bd, 0, none⟩), .pointer (some ⟨Bs, 0, none⟩)] W _
    go_enter Try.func43, Try.ntmps43
    go_wp2
    go_quiet (fail)
    go_wp2
    go_ret
    exact ⟨ret_int' hv.out, by repeat (first | exact Drawn0.refl _ | apply Drawn0.step)⟩
  · cases hF
set_option maxHeartbeats 2000000 in
theorem dl_gives (Bl Bd : Nat) (l d : Int) (w : World) (hd : 1 ≤ d) (hd2 : d ≤ 12) (hl : 0 ≤ l) (hl2 : l ≤ 120) (hn : l * d ≤ 120) (h1 : Bl < w.heap.size) (h2 : Bd < w.heap.size) (hc1 : w.cell? ⟨Bl, 0, none⟩ = some (.int .i64 l)) (hc2 : w.cell? ⟨Bd, 0, none⟩ = some (.int .i64 d)) :
    GivesI 44 #[.pointer (some ⟨Bl, 0, none⟩), .pointer (some ⟨Bd, 0, none⟩)] (dlF l d) w := by
  intro W i r hb hF
  unfold dlF at hF
  split at hF
  · rename_i hi
    obtain rfl := Option.some.inj hF
    clear hF
    have hl1 : 1 ≤ l := by
      rcases Int.lt_or_eq_of_le hl with h | h
      · omega
      · rw [← h, Int.zero_mul] at hi
        omega
    have hv := Aside0.mk (dl_val l d i hi.1 (by omega) hl1 hd hd2 hl2)
    have hc1' := (hb.cell (p := ⟨Bl, 0, none⟩) h1).trans hc1
    have hc2' := (hb.cell (p := ⟨Bd, 0, none⟩) h2).trans hc2
    have hz : ¬ l = 0 := by omega
    have hz2 : (l == 0) = false := by simpa using hz
    have hz3 : decide (l = 0) = false := by simpa using hz
    clear hc1 hc2 hb h1 h2 hi hd hd2 hl hl1 hn hl2
    show Calls Try.prog 44 #[.int .i64 i, .pointer (some ⟨Bl, 0, none⟩), .pointer (some ⟨Bd, 0, none⟩)] W _
    go_enter Try.func44, Try.ntmps44
    go_wp2
    go_quiet (fail)
    go_wp2
    go_ret
    exact ⟨ret_int' hv.out, by repeat (first | exact Drawn0.refl _ | apply Drawn0.step)⟩
  · cases hF

end Go.Proofs.Ytanbjngipeblmaa.P
