import Derived.Test.YtpicfpdpcbncmaaBCh
import Derived.Test.YtpicfpdpcbncmaaPf6
import Derived.Test.YtpicfpdpcbncmaaPf8
namespace Go.Proofs.Ytpicfpdpcbncmaa.Pure
open Go.RowKit Go.Proofs.Ytpicfpdpcbncmaa.P Go.Proofs.YtpicfpdpcbncmaaW.PrintWords Go.Proofs.YtpicfpdpcbncmaaW.PrintLast Go.Proofs.Ytpicfpdpcbncmaa.Opn
set_option linter.unusedVariables false
set_option linter.unusedSimpArgs false

def mxl (s : List Int) : Int := s.foldl (fun m y => max m y) 0
theorem foldl_max (t : List Int) : ∀ (b : Int), b ≤ t.foldl (fun m y => max m y) b ∧ (∀ z, z ∈ t → z ≤ t.foldl (fun m y => max m y) b) ∧ (∀ c, b ≤ c → (∀ z, z ∈ t → z ≤ c) → t.foldl (fun m y => max m y) b ≤ c) := by
  induction t with
  | nil => intro b; exact ⟨Int.le_refl _, fun z hz => (by cases hz), fun c hc _ => hc⟩
  | cons x t ih =>
    intro b
    have h := ih (max b x)
    rw [List.foldl_cons]
    refine ⟨by omega, fun z hz => ?_, fun c hc hz => h.2.2 c (by have := hz x List.mem_cons_self; omega) (fun z hz' => hz z (List.mem_cons_of_mem _ hz'))⟩
    rcases List.mem_cons.1 hz with rfl | hz
    · omega
    · exact h.2.1 z hz
theorem mxb_max (a b : Int) : mx a b = max a b := by
  unfold mx
  split <;> omega
theorem max_f (s : List Int) (hs : 0 < s.length) (h0 : ∀ z, z ∈ s → 0 ≤ z) : slices_Max_int_int.f s = some (mxl s) := by
  cases s with
  | nil => simp at hs
  | cons a t =>
    unfold slices_Max_int_int.f mxl
    rw [if_neg (by simp), List.foldl_cons, Int.max_eq_right (h0 a List.mem_cons_self)]
    congr 1
    show t.foldl (fun m y => mx m y) a = _
    congr 1
    funext m y
    exact mxb_max m y
def optK (f : Nat → Int) : Nat → Int
  | 0 => -1
  | k + 1 => if optK f k < 0 then f k else if f k < optK f k then f k else optK f k
theorem optK_spec (f : Nat → Int) : ∀ n, (∀ h, h < n → 0 ≤ f h) → 0 < n → (∃ h, h < n ∧ optK f n = f h) ∧ (∀ h, h < n → optK f n ≤ f h) := by
  intro n
  induction n with
  | zero => intro _ h; omega
  | succ n ih =>
    intro h0 _
    rw [optK]
    by_cases hn : 0 < n
    · obtain ⟨⟨q, hq, e⟩, h2⟩ := ih (fun h hh => h0 h (by omega)) hn
      have := h0 q (by omega)
      rw [if_neg (by omega)]
      by_cases c : f n < optK f n
      · rw [if_pos c]
        refine ⟨⟨n, by omega, rfl⟩, fun h hh => ?_⟩
        by_cases e2 : h = n
        · rw [e2]; exact Int.le_refl _
        · have := h2 h (by omega)
          omega
      · rw [if_neg c]
        refine ⟨⟨q, by omega, e⟩, fun h hh => ?_⟩
        by_cases e2 : h = n
        · rw [e2]; omega
        · exact h2 h (by omega)
    · have : n = 0 := by omega
      subst this
      rw [optK, if_pos (by omega)]
      exact ⟨⟨0, by omega, rfl⟩, fun h hh => by have : h = 0 := by omega
                                                rw [this]; exact Int.le_refl _⟩
def opt : List Int → List Int → Int
  | [], s => mxl s
  | x :: l, s => optK (fun h => opt l (s.set h (rd s (h : Int) + x))) s.length
def sumI (l : List Int) : Int := l.foldr (fun x s => x + s) 0
theorem mem_set_i {s : List Int} {h : Nat} {v z : Int} (hz : z ∈ s.set h v) : z ∈ s ∨ z = v := List.mem_or_eq_of_mem_set hz
theorem opt_ge : ∀ (l s : List Int), (∀ x, x ∈ l → 1 ≤ x) → (∀ z, z ∈ s → 0 ≤ z) → 0 < s.length → 0 ≤ opt l s ∧ mxl s ≤ opt l s := by
  intro l
  induction l with
  | nil => intro s _ _ _; exact ⟨(foldl_max s 0).1, Int.le_refl _⟩
  | cons x l ih =>
    intro s hx hs hl
    have hx1 := hx x List.mem_cons_self
    have hstep : ∀ h, h < s.length → 0 ≤ opt l (s.set h (rd s (h : Int) + x)) ∧ mxl (s.set h (rd s (h : Int) + x)) ≤ opt l (s.set h (rd s (h : Int) + x)) := fun h hh => by
      refine ih _ (fun y hy => hx y (List.mem_cons_of_mem _ hy)) (fun z hz => ?_) (by simpa using hl)
      rcases mem_set_i hz with h1 | h1
      · exact hs z h1
      · have := hs _ (rd_mem s h hh)
        omega
    obtain ⟨⟨q, hq, e⟩, _⟩ := optK_spec (fun h => opt l (s.set h (rd s (h : Int) + x))) s.length (fun h hh => (hstep h hh).1) hl
    rw [opt, e]
    have hq2 := hstep q hq
    refine ⟨hq2.1, Int.le_trans ?_ hq2.2⟩
    refine (foldl_max s 0).2.2 _ (foldl_max _ 0).1 fun z hz => ?_
    obtain ⟨j, hj, rfl⟩ := List.getElem_of_mem hz
    have hj2 : j < (s.set q (rd s (q : Int) + x)).length := by simpa using hj
    have := (foldl_max (s.set q (rd s (q : Int) + x)) 0).2.1 _ (List.getElem_mem hj2)
    rw [List.getElem_set] at this
    split at this
    · rename_i e2
      subst e2
      rw [rd_nat s q hj] at this
      have h9 : s[q] + x ≤ mxl (s.set q (rd s (q : Int) + x)) := by rw [rd_nat s q hj]; exact this
      omega
    · exact this
theorem opt_le : ∀ (l s : List Int) (M : Int), (∀ x, x ∈ l → 1 ≤ x) → (∀ z, z ∈ s → 0 ≤ z ∧ z ≤ M) → 0 < s.length → opt l s ≤ M + sumI l := by
  intro l
  induction l with
  | nil =>
    intro s M _ hs hl
    have : mxl s ≤ M := (foldl_max s 0).2.2 M (by have := hs _ (rd_mem s 0 hl); omega) (fun z hz => (hs z hz).2)
    simpa [opt, sumI] using this
  | cons x l ih =>
    intro s M hx hs hl
    have hx1 := hx x List.mem_cons_self
    have hset : ∀ h, h < s.length → ∀ z, z ∈ s.set h (rd s (h : Int) + x) → 0 ≤ z ∧ z ≤ M + x := fun h hh z hz => by
      rcases mem_set_i hz with h1 | h1
      · have := hs z h1
        omega
      · have := hs _ (rd_mem s h hh)
        omega
    have h0 : ∀ h, h < s.length → 0 ≤ opt l (s.set h (rd s (h : Int) + x)) := fun h hh => (opt_ge l _ (fun y hy => hx y (List.mem_cons_of_mem _ hy)) (fun z hz => (hset h hh z hz).1) (by simpa using hl)).1
    have h1 := (optK_spec (fun h => opt l (s.set h (rd s (h : Int) + x))) s.length h0 hl).2 0 hl
    have h2 := ih (s.set 0 (rd s ((0 : Nat) : Int) + x)) (M + x) (fun y hy => hx y (List.mem_cons_of_mem _ hy)) (hset 0 hl) (by simpa using hl)
    rw [opt]
    have e : sumI (x :: l) = x + sumI l := rfl
    rw [e]
    refine Int.le_trans h1 (Int.le_trans h2 ?_)
    omega
theorem rd_set_same (s : List Int) (i : Nat) (v : Int) (h : i < s.length) : rd (s.set i v) (i : Int) = v := by
  rw [rd_nat _ _ (by simpa using h)]
  simp
theorem set_back (s : List Int) (i : Nat) (v : Int) (h : i < s.length) : (s.set i v).set i (rd s (i : Int)) = s := by
  rw [List.set_set, rd_nat s i h]
  exact List.set_getElem_self h
/-- impl.best walks all hands, and leaves the loads as they were. -/
theorem implBest : ∀ (l s : List Int), (∀ x, x ∈ l → 1 ≤ x ∧ x ≤ 50) → (∀ z, z ∈ s → 0 ≤ z ∧ z + 50 * l.length ≤ 1000000) → 0 < s.length → s.length ≤ 4 → ∀ k, l.length * 6 + 1 < k → impl_best.f k l s = some (opt l s, s) := by
  intro l
  induction l with
  | nil =>
    intro s _ hs hl hl4 k hk
    obtain ⟨k, rfl⟩ := round hk
    rw [impl_best.f, if_pos (by simp), max_f s hl (fun z hz => (hs z hz).1)]
    rfl
  | cons x l ih =>
    intro s hx hs hl hl4 k hk
    obtain ⟨k, rfl⟩ := round hk
    simp only [List.length_cons] at hk hs
    have hx1 := hx x List.mem_cons_self
    have loop : ∀ (d k i : Nat), i + d = s.length → l.length * 6 + 2 + d < k → impl_best.l0 k (x :: l) s (optK (fun h => opt l (s.set h (rd s (h : Int) + x))) i) (s.length : Int) (i : Int) = some (optK (fun h => opt l (s.set h (rd s (h : Int) + x))) s.length, s) := by
      intro d
      induction d with
      | zero =>
        intro k i hi hk
        obtain ⟨k, rfl⟩ := round (show 0 < k by omega)
        have : i = s.length := by omega
        subst this
        rw [impl_best.l0, if_neg (by omega)]
      | succ d ihd =>
        intro k i hi hk
        obtain ⟨k, rfl⟩ := round (show 0 < k by omega)
        have hz := hs _ (rd_mem s i (by omega))
        have q : ((i + 1 : Nat) : Int) = (i : Int) + 1 := by omega
        have e0 : rd (x :: l) 0 = x := rfl
        have hrec := ih (s.set i (rd s (i : Int) + x)) (fun y hy => hx y (List.mem_cons_of_mem _ hy)) (fun z hz' => by
          rcases mem_set_i hz' with h1 | h1
          · have := hs z h1
            push_cast at this
            omega
          · push_cast at hz
            omega) (by simpa using hl) (by simpa using hl4) k (by omega)
        have := ihd k (i + 1) (by omega) (by omega)
        rw [optK, q] at this
        rw [impl_best.l0, if_pos (by omega), if_pos (by omega), if_pos (by omega), if_pos (by simp only [List.length_cons]; omega), if_pos (by simp only [List.length_cons]; omega), e0, wrap_id (x := rd s (i : Int) + x) (by omega) (by omega), Int.toNat_natCast, List.drop_one, List.tail_cons, hrec, Option.bind_some]
        dsimp only
        rw [rd_set_same s i _ (by omega), wrap_id (x := rd s (i : Int) + x - x) (by omega) (by omega), wrap_id (x := (i : Int) + 1) (by omega) (by omega), show rd s (i : Int) + x - x = rd s (i : Int) by omega, set_back s i _ (by omega)]
        rw [← this]
        split
        · rfl
        · split <;> rfl
    rw [impl_best.f, if_neg (by simp; omega)]
    exact loop s.length k 0 (by omega) (by omega)
theorem specTop (l s : List Int) (b : Int) (hs : s.length ≤ 1048576) : ∀ (d k i : Nat) (m : Int), i + d = s.length → spec_l14Best.l0 (k + d) l s b m s (s.length : Int) (i : Int) = spec_l14Best.l0 k l s b ((s.drop i).foldl (fun m y => max m y) m) s (s.length : Int) (s.length : Int) := by
  intro d
  induction d with
  | zero =>
    intro k i m hi
    have : i = s.length := by omega
    subst this
    rw [List.drop_eq_nil_of_le (Nat.le_refl _)]
    rfl
  | succ d ih =>
    intro k i m hi
    have e : k + (d + 1) = (k + d) + 1 := by omega
    have q : ((i + 1 : Nat) : Int) = (i : Int) + 1 := by omega
    have := ih k (i + 1) (max m (rd s (i : Int))) (by omega)
    rw [q] at this
    rw [e, spec_l14Best.l0, if_pos (by omega), if_pos (by omega), if_pos (by omega), most_eq, Option.bind_some, mxb_max, Int.max_comm, wrap_id (x := (i : Int) + 1) (by omega) (by omega), this, drop_rd s i (by omega), List.foldl_cons]
/-- spec's branch and bound: the least of the bound and of all. -/
theorem specBest : ∀ (l s : List Int), (∀ x, x ∈ l → 1 ≤ x ∧ x ≤ 50) → (∀ z, z ∈ s → 0 ≤ z ∧ z + 50 * l.length ≤ 1000000) → 0 < s.length → s.length ≤ 4 → ∀ (k : Nat) (b : Int), l.length * 11 + 6 < k → spec_l14Best.f k l s b = some (min b (opt l s)) := by
  intro l
  induction l with
  | nil =>
    intro s _ hs hl hl4 k b hk
    obtain ⟨k, rfl⟩ : ∃ m, k = ((m + 1) + s.length) + 1 := ⟨k - s.length - 2, by simp at hk; omega⟩
    have := specTop [] s b (by omega) s.length (k + 1) 0 0 (by omega)
    rw [List.drop_zero] at this
    rw [spec_l14Best.f]
    refine Eq.trans this ?_
    rw [spec_l14Best.l0, if_neg (by omega), opt]
    show (if mxl s ≥ b then some b else if (([] : List Int).length : Int) = 0 then some (mxl s) else _) = _
    by_cases c : mxl s ≥ b
    · rw [if_pos c]
      congr 1
      omega
    · rw [if_neg c, if_pos (by simp)]
      congr 1
      omega
  | cons x l ih =>
    intro s hx hs hl hl4 k b hk
    simp only [List.length_cons] at hk hs
    obtain ⟨k, rfl⟩ : ∃ m, k = ((m + 1) + s.length) + 1 := ⟨k - s.length - 2, by omega⟩
    have hx1 := hx x List.mem_cons_self
    have hge := opt_ge (x :: l) s (fun y hy => (hx y hy).1) (fun z hz => (hs z hz).1) hl
    have h0 : ∀ h, h < s.length → 0 ≤ opt l (s.set h (rd s (h : Int) + x)) := fun h hh => (opt_ge l _ (fun y hy => (hx y (List.mem_cons_of_mem _ hy)).1) (fun z hz => by
      rcases mem_set_i hz with h1 | h1
      · exact (hs z h1).1
      · have := hs _ (rd_mem s h hh)
        omega) (by simpa using hl)).1
    have loop : ∀ (d k i : Nat), i + d = s.length → l.length * 11 + 7 + d < k → spec_l14Best.l1 k (x :: l) s (if i = 0 then b else min b (optK (fun h => opt l (s.set h (rd s (h : Int) + x))) i)) (s.length : Int) (i : Int) = some (min b (optK (fun h => opt l (s.set h (rd s (h : Int) + x))) s.length)) := by
      intro d
      induction d with
      | zero =>
        intro k i hi hk
        obtain ⟨k, rfl⟩ := round (show 0 < k by omega)
        have : i = s.length := by omega
        subst this
        rw [spec_l14Best.l1, if_neg (by omega), if_neg (by omega)]
      | succ d ihd =>
        intro k i hi hk
        obtain ⟨k, rfl⟩ := round (show 0 < k by omega)
        have hz := hs _ (rd_mem s i (by omega))
        have q : ((i + 1 : Nat) : Int) = (i : Int) + 1 := by omega
        have e0 : rd (x :: l) 0 = x := rfl
        have hrec := fun b' => ih (s.set i (rd s (i : Int) + x)) (fun y hy => hx y (List.mem_cons_of_mem _ hy)) (fun z hz' => by
          rcases mem_set_i hz' with h1 | h1
          · have := hs z h1
            push_cast at this
            omega
          · push_cast at hz
            omega) (by simpa using hl) (by simpa using hl4) k b' (by omega)
        have := ihd k (i + 1) (by omega) (by omega)
        rw [if_neg (by omega), q] at this
        rw [spec_l14Best.l1, if_pos (by omega)]
        simp only [Option.bind_some, List.nil_append]
        rw [if_pos (by simp only [List.length_nil]; omega), if_pos (by omega), if_pos (by omega), if_pos (by simp only [List.length_cons]; omega), if_pos (by simp only [List.length_cons]; omega), e0, wrap_id (x := rd s (i : Int) + x) (by omega) (by omega), Int.toNat_natCast, List.drop_one, List.tail_cons, hrec, Option.bind_some, wrap_id (x := (i : Int) + 1) (by omega) (by omega), ← this]
        congr 1
        rw [optK]
        have hi0 := h0 i (by omega)
        by_cases c : i = 0
        · subst c
          rw [if_pos rfl, optK, if_pos (by omega)]
        · rw [if_neg c]
          obtain ⟨⟨p, hp, e1⟩, _⟩ := optK_spec (fun h => opt l (s.set h (rd s (h : Int) + x))) i (fun h hh => h0 h (by omega)) (by omega)
          have hp0 := h0 p (by omega)
          rw [if_neg (by rw [e1]; omega)]
          split <;> omega
    have := specTop (x :: l) s b (by omega) s.length (k + 1) 0 0 (by omega)
    rw [List.drop_zero] at this
    rw [spec_l14Best.f]
    refine Eq.trans this ?_
    rw [spec_l14Best.l0, if_neg (by omega)]
    show (if mxl s ≥ b then some b else if ((x :: l).length : Int) = 0 then some (mxl s) else spec_l14Best.l1 k (x :: l) s b (s.length : Int) 0) = _
    by_cases c : mxl s ≥ b
    · rw [if_pos c]
      congr 1
      omega
    · rw [if_neg c, if_neg (by simp; omega)]
      have := loop s.length k 0 (by omega) (by omega)
      rw [if_pos rfl] at this
      exact this

end Go.Proofs.Ytpicfpdpcbncmaa.Pure
