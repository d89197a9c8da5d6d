/- FnExactPlayHeard: for every input that can be read, the law returns true and its arguments read as before. Conditions: none beyond the row's own. (Part 5 of 6: contracts made by pw.py with the kit's print, contracts by hand, plain laws, the row.) -/
import Derived.Test.YtligcknlmbgbiaaMFnExactPlayHeard3
import Derived.Shelf.SlicesG.CompactI

namespace Go.Proofs.Ytligcknlmbgbiaa.P
open Go.RowKit Go.Proofs.YtligcknlmbgbiaaW.PrintWords Go.Proofs.YtligcknlmbgbiaaW.PrintLast Go.Proofs.YtligcknlmbgbiaaW.PrintMore
attribute [local go_sem] max2_int min2_int max_two min_two max_three min_three max_four min_four
set_option linter.unusedVariables false
set_option linter.unusedSimpArgs false

/-- A state of type 31 at block g of W; what its slices lead to came in by w0. -/
def IsS31 (A1 : Option Addr) (c1 : Nat) (A2 : Option Addr) (c2 : Nat) (w0 W : World) (g : Nat) (f0 : Int) (f1 : List (S59)) (f2 : List Int) : Prop := W.heap[g]? = some (.cells #[.int .i64 f0, .slice A1 f1.length c1, .slice A2 f2.length c2] 31 (0, 0)) ∧ (w0.heap.size ≤ g ∨ g < w0.heap.size) ∧ Kd.C k59 w0 A1 f1.length f1 ∧ Kd.C (Kd.int .i64) w0 A2 f2.length f2
variable {A1 : Option Addr} {c1 : Nat} {A2 : Option Addr} {c2 : Nat}
theorem IsS31.grown {w0 W : World} {g : Nat} {f0 : Int} {f1 : List (S59)} {f2 : List Int} {W1 : World} {row : Option Nat} (h : IsS31 A1 c1 A2 c2 w0 W g f0 f1 f2) (hw : W.grownBy W1 row) (hne : some g ≠ row) : IsS31 A1 c1 A2 c2 w0 W1 g f0 f1 f2 := by
  obtain ⟨hb, hg, hr1, hr2⟩ := h
  exact ⟨blk_grown hb hw hne, hg, hr1, hr2⟩
theorem IsS31.kept {w0 W : World} {g : Nat} {f0 : Int} {f1 : List (S59)} {f2 : List Int} {W1 : World} {S : Nat → Prop} (h : IsS31 A1 c1 A2 c2 w0 W g f0 f1 f2) (hk : Kept W W1 S) (hne : ¬ S g) : IsS31 A1 c1 A2 c2 w0 W1 g f0 f1 f2 := by
  obtain ⟨hb, hg, hr1, hr2⟩ := h
  exact ⟨blk_kept hb hk hne, hg, hr1, hr2⟩
theorem IsS31.below {w0 W : World} {g : Nat} {f0 : Int} {f1 : List (S59)} {f2 : List Int} {W1 : World} (h : IsS31 A1 c1 A2 c2 w0 W g f0 f1 f2) (hw : Below W.heap.size W W1) : IsS31 A1 c1 A2 c2 w0 W1 g f0 f1 f2 := h.grown (grown_of_below hw none) (by simp)
theorem IsS31.alloc {w0 W : World} {g : Nat} {f0 : Int} {f1 : List (S59)} {f2 : List Int} (h : IsS31 A1 c1 A2 c2 w0 W g f0 f1 f2) (o : Obj) : IsS31 A1 c1 A2 c2 w0 (W.alloc o) g f0 f1 f2 := h.below (below_alloc (Below.refl _ _) o)
theorem IsS31.drewN {w0 W : World} {g : Nat} {f0 : Int} {f1 : List (S59)} {f2 : List Int} (h : IsS31 A1 c1 A2 c2 w0 W g f0 f1 f2) (m : Nat) : IsS31 A1 c1 A2 c2 w0 (W.drewN m) g f0 f1 f2 := h
theorem IsS31.drew {w0 W : World} {g : Nat} {f0 : Int} {f1 : List (S59)} {f2 : List Int} (h : IsS31 A1 c1 A2 c2 w0 W g f0 f1 f2) : IsS31 A1 c1 A2 c2 w0 W.drew g f0 f1 f2 := h
theorem IsS31.at_ {w0 W : World} {g : Nat} {f0 : Int} {f1 : List (S59)} {f2 : List Int} {w' : World} {m : Nat} (hq : W.drewN m = w') (h : IsS31 A1 c1 A2 c2 w0 W g f0 f1 f2) : IsS31 A1 c1 A2 c2 w0 w' g f0 f1 f2 := by subst hq; exact IsS31.drewN h m
theorem IsS31.apart {w0 W : World} {g : Nat} {f0 : Int} {f1 : List (S59)} {f2 : List Int} {α : Type} {d : Kd α} {e : Nat} {base : Nat} {ok : Nat → Prop} {v : Value} {xs : List α} (h : IsS31 A1 c1 A2 c2 w0 W g f0 f1 f2) (ho : d.R e W base ok v xs) (ht : ∀ q, q ∈ e :: d.E → q ≠ 31) : d.R e W base (fun k => ok k ∧ k ≠ g) v xs := by
  obtain ⟨hb, hg, hr1, hr2⟩ := h
  exact Kd.R_types ho hb ht
theorem IsS31.own_ne {w0 W : World} {g : Nat} {f0 : Int} {f1 : List (S59)} {f2 : List Int} {α : Type} {d : Kd α} {e : Nat} {base : Nat} {ok : Nat → Prop} {v : Value} {xs : List α} (h : IsS31 A1 c1 A2 c2 w0 W g f0 f1 f2) (ho : d.R e W base ok v xs) (ht : e ≠ 31) : some g ≠ v.ownBlock := by
  obtain ⟨hb, hg, hr1, hr2⟩ := h
  exact Kd.R_ne ho hb ht
theorem IsS31.ge {w0 W : World} {g : Nat} {f0 : Int} {f1 : List (S59)} {f2 : List Int} (h : IsS31 A1 c1 A2 c2 w0 W g f0 f1 f2) : (w0.heap.size ≤ g ∨ g < w0.heap.size) := by
  obtain ⟨hb, hg, hr1, hr2⟩ := h
  exact hg
theorem IsS31.far {w0 W : World} {g : Nat} {f0 : Int} {f1 : List (S59)} {f2 : List Int} {p : Addr} (h : IsS31 A1 c1 A2 c2 w0 W g f0 f1 f2) (hne : g ≠ p.block) (u : Value) : IsS31 A1 c1 A2 c2 w0 (W.setCell p u) g f0 f1 f2 := by
  obtain ⟨hb, hg, hr1, hr2⟩ := h
  exact ⟨blk_far hb hne u, hg, hr1, hr2⟩
theorem cellS31_0 {W : World} {g : Nat} {A1 : Option Addr} {c1 : Nat} {A2 : Option Addr} {c2 : Nat} {f0 : Int} {f1 : List (S59)} {f2 : List Int} (h : W.heap[g]? = some (.cells #[.int .i64 f0, .slice A1 f1.length c1, .slice A2 f2.length c2] 31 (0, 0))) : W.cell? ⟨g, 0, none⟩ = some (.int .i64 f0) := (blk_cell h 0).trans rfl
theorem IsS31.set_0 {w0 W : World} {g : Nat} {f0 : Int} {f1 : List (S59)} {f2 : List Int} (h : IsS31 A1 c1 A2 c2 w0 W g f0 f1 f2) (x : Int) : IsS31 A1 c1 A2 c2 w0 (W.setCell ⟨g, 0, none⟩ (.int .i64 x)) g x f1 f2 := by
  obtain ⟨hb, hg, hr1, hr2⟩ := h
  exact ⟨by simpa using blk_set hb 0 (.int .i64 x), hg, hr1, hr2⟩
theorem cellS31_1 {W : World} {g : Nat} {A1 : Option Addr} {c1 : Nat} {A2 : Option Addr} {c2 : Nat} {f0 : Int} {f1 : List (S59)} {f2 : List Int} (h : W.heap[g]? = some (.cells #[.int .i64 f0, .slice A1 f1.length c1, .slice A2 f2.length c2] 31 (0, 0))) : W.cell? ⟨g, 1, none⟩ = some (.slice A1 f1.length c1) := (blk_cell h 1).trans rfl
theorem cellS31_2 {W : World} {g : Nat} {A1 : Option Addr} {c1 : Nat} {A2 : Option Addr} {c2 : Nat} {f0 : Int} {f1 : List (S59)} {f2 : List Int} (h : W.heap[g]? = some (.cells #[.int .i64 f0, .slice A1 f1.length c1, .slice A2 f2.length c2] 31 (0, 0))) : W.cell? ⟨g, 2, none⟩ = some (.slice A2 f2.length c2) := (blk_cell h 2).trans rfl
theorem IsS31.new (w0 W : World) (A1 : Option Addr) (c1 : Nat) (A2 : Option Addr) (c2 : Nat) (f0 : Int) (f1 : List (S59)) (f2 : List Int) (hB : Below w0.heap.size w0 W) (hr1 : Kd.C k59 w0 A1 f1.length f1) (hr2 : Kd.C (Kd.int .i64) w0 A2 f2.length f2) : IsS31 A1 c1 A2 c2 w0 (W.alloc (.cells #[.int .i64 f0, .slice A1 f1.length c1, .slice A2 f2.length c2] 31)) W.heap.size f0 f1 f2 := ⟨by simpa using heap_alloc_new W _, .inl hB.size, hr1, hr2⟩

/-! ### impl_Sender_open: function 36 -/
def impl_Sender_open.l0 : Nat → List Int → Int → Int → Int → List (S59) → List Int → Option (List Int × Int)
  | 0, _, _, _, _, _, _ => none
  | k + 1, x3, x9, x10, x1000, x1001, x1002 => if x10 < x9 then ((impl_has.f x1001 x10).bind fun t104 => (if t104 = true then (impl_Sender_open.l0 k x3 x9 (wrap64 (x10 + 1)) x1000 x1001 x1002) else ((slices_Contains_int_int.f k x1002 x10).bind fun t105 => (if t105 = true then (impl_Sender_open.l0 k x3 x9 (wrap64 (x10 + 1)) x1000 x1001 x1002) else (if x3.length < 17592186044416 then (impl_Sender_open.l0 k (x3 ++ [x10]) x9 (wrap64 (x10 + 1)) x1000 x1001 x1002) else (none)))))) else (some (x3, x1000))
def impl_Sender_open.f (k : Nat) (s0_0 : Int) (s0_1 : List (S59)) (s0_2 : List Int) : Option (List Int × Int) := impl_Sender_open.l0 k (([] : List Int)) s0_0 0 s0_0 s0_1 s0_2
set_option maxHeartbeats 8000000 in
set_option maxRecDepth 100000 in
theorem impl_Sender_open.calls (k : Nat) (g : Nat) (s0_0 : Int) (s0_1 : List (S59)) (s0_2 : List Int) (r1 : List Int) (r2 : Int) (w0 w : World) (hI : IsS31 A1 c1 A2 c2 w0 w g s0_0 s0_1 s0_2) (hB : Below w0.heap.size w0 w) (hcap1_ : s0_1.length ≤ c1) (hcap2_ : s0_2.length ≤ c2) (h : impl_Sender_open.f k s0_0 s0_1 s0_2 = some (r1, r2)) :
  Calls Try.prog 36 #[.pointer (some ⟨g, 0, none⟩)] w fun e w' => ∃ v0_ : Value, e = .returned (v0_) ∧ Kd.R (Kd.int .i64) 3 w' w.heap.size (fun _ => True) v0_ r1 ∧ IsS31 A1 c1 A2 c2 w0 w' g r2 s0_1 s0_2 ∧ Below w0.heap.size w0 w' ∧ KeepBut w w' g none := by
 have HI0 := sA hI
 have HK := sA (KeepBut.refl w g none)
 have HL := sA hB.size
 clear hI
 have HW0 := sA hB.size
 have HB := sA hB
 clear hB
 have H : (impl_Sender_open.l0 k (([] : List Int)) s0_0 0 s0_0 s0_1 s0_2) = some (r1, r2) := h
 clear h
 obtain ⟨y101, hy101⟩ : ∃ y_ : List Int, y_ = (([] : List Int)) := ⟨_, rfl⟩
 replace H : (impl_Sender_open.l0 k y101 s0_0 0 s0_0 s0_1 s0_2) = some (r1, r2) := by first | (rw [hy101]; with_reducible exact H) | (have H2_ := (Option.bind_some _ _).symm.trans H; rw [hy101]; with_reducible exact H2_) | (have H2_ := (Option.bind_some _ _).symm.trans H; with_reducible exact H2_) | with_reducible exact H | (rw [hy101]; exact H) | exact H
 have Ny101 := sA hy101
 clear hy101
 have H' := sA H
 clear H
 go_enter Try.func36, Try.ntmps36
 go_wp2_with (first | ((with_reducible refine gate_dst (N := 5) rfl ?_); refine Kd.R_lit (Kd.int .i64) _ 3 ?hg (N := 5) ?hd (xs := ([] : List Int)) (inner := []) (ok := fun _ => True) (okp := fun _ => True) ?hr ?hp (fun _ hk => hk) trivial (Below.refl _ _) (Nat.le_refl _) (by simp) ?_; (case hd => rfl); (case hg => rfl); (case hr => first | (go_simp; done) | (go_simp; rfl)); (case hp => exact (Reps.none _ _)); intro v102 w2 ho3 hb hg_ hnew_; clear hg_ hnew_; (first | rw [← Ny101.out] at ho3 | (simp only [Int.reduceToNat] at ho3; rw [← Ny101.out] at ho3)); have n0_ := sA (Kd.R_lower ho3 (keep_size (w := w) (g := g) (row := none) (by repeat (first | (with_reducible first | exact HK.out | apply KeepBut.set_ | apply keep_drewN | apply keep_drew | apply keep_alloc) | exact HK.out)))); have n1_ := sA (IsS31.below (by repeat (first | (with_reducible first | exact HI0.out | apply IsS31.alloc | apply IsS31.drewN | apply IsS31.drew | apply IsS31.set_0) | exact HI0.out)) hb); have n2_ := sA (KeepBut.trans (by repeat (first | (with_reducible first | exact HK.out | apply KeepBut.set_ | apply keep_drewN | apply keep_drew | apply keep_alloc) | exact HK.out)) (KeepBut.of_below hb g none) (.inl rfl)); have n3_ := sA (below_step (by repeat (first | (with_reducible first | exact HB.out | apply sLA | apply sLN | apply sLD | refine sLS ?_ (IsS31.ge HI0.out)) | exact HB.out)) hb); clear HI0; clear HK; clear HB; have HO103 := n0_; have HI0 := n1_; have HK := n2_; have HB := n3_; clear n0_ n1_ n2_ n3_; clear hb ho3; obtain ⟨HGz4, hgz4, HSz4_1, HSz4_2⟩ := HI0.out; have hcz4_0 := cellS31_0 HGz4; have hcz4_1 := cellS31_1 HGz4; have hcz4_2 := cellS31_2 HGz4; have hfz4_0 := blk_frozen HGz4 0; clear HGz4 hgz4))
 go_loopg [3, 10] k (fun kq v3 v10 w' => ∃ (x3_1 : List Int) (x10_1 : Int), v10 = .int .i64 x10_1 ∧ Aside0 (impl_Sender_open.l0 kq x3_1 s0_0 x10_1 s0_0 s0_1 s0_2 = some (r1, r2)) ∧ Aside0 (kq ≤ k) ∧ Aside0 (Kd.R (Kd.int .i64) 3 w' w.heap.size (fun _ => True) v3 x3_1) ∧ Aside0 (IsS31 A1 c1 A2 c2 w0 w' g s0_0 s0_1 s0_2) ∧ Aside0 (KeepBut w w' g none) ∧ Aside0 (Below w0.heap.size w0 w'))
 case atStart => exact ⟨(y101), (0), (by first | rfl | (simp; done) | (simp [*]; done)), H', ⟨Nat.le_refl _⟩, ⟨sR HO103.out⟩, ⟨by repeat (first | (with_reducible first | exact HI0.out | apply IsS31.alloc | apply IsS31.drewN | apply IsS31.drew | apply IsS31.set_0) | exact HI0.out)⟩, ⟨by repeat (first | (with_reducible first | exact HK.out | apply KeepBut.set_ | apply keep_drewN | apply keep_drew | apply keep_alloc) | exact HK.out)⟩, ⟨by repeat (first | (with_reducible first | exact HB.out | apply sLA | apply sLN | apply sLD | refine sLS ?_ (IsS31.ge HI0.out)) | exact HB.out)⟩⟩
 case round =>
  clear H'
  try clear p2
  try clear c3
  try clear hcz4_0
  try clear hcz4_1
  try clear hcz4_2
  try clear hfz4_0
  obtain ⟨x3_1, x10_1, rfl, HA, HK1, HO_3, HI0, HK, HB⟩ := hrel
  cases gk with
  | zero => exact absurd HA.out (by simp [impl_Sender_open.l0])
  | succ k1 =>
   have H := HA.out
   clear HA
   simp only [impl_Sender_open.l0] at H
   by_cases c5 : x10_1 < s0_0
   ·rw [if_pos c5] at H
    have c5b0 : decide (x10_1 < s0_0) = true := decide_eq_true c5
    clear c5
    replace H := Option.bind_eq_some_iff.mp H
    obtain ⟨t104, A60, H⟩ := H
    replace H : (if t104 = true then (impl_Sender_open.l0 k1 x3_1 s0_0 (wrap64 (x10_1 + 1)) s0_0 s0_1 s0_2) else ((slices_Contains_int_int.f k1 s0_2 x10_1).bind fun t105 => (if t105 = true then (impl_Sender_open.l0 k1 x3_1 s0_0 (wrap64 (x10_1 + 1)) s0_0 s0_1 s0_2) else (if x3_1.length < 17592186044416 then (impl_Sender_open.l0 k1 (x3_1 ++ [x10_1]) s0_0 (wrap64 (x10_1 + 1)) s0_0 s0_1 s0_2) else (none))))) = some (r1, r2) := H
    have A6 := sA A60
    clear A60
    by_cases c7 : t104 = true
    ·subst c7
     have H1 : (impl_Sender_open.l0 k1 x3_1 s0_0 (wrap64 (x10_1 + 1)) s0_0 s0_1 s0_2) = some (r1, r2) := by rw [if_pos rfl] at H; exact H
     clear H
     have H := H1
     clear H1
     have H' := sA H
     clear H
     obtain ⟨HGz8, hgz8, HSz8_1, HSz8_2⟩ := HI0.out
     have hcz8_0 := cellS31_0 HGz8
     have hcz8_1 := cellS31_1 HGz8
     have hcz8_2 := cellS31_2 HGz8
     have hfz8_0 := blk_frozen HGz8 0
     clear HGz8 hgz8
     go_wp2_with (first | ((with_reducible refine gate_callee (f := 45) rfl ?_); refine goesL_ (some 18) rfl rfl Try.func45 (by kernel_rfl) rfl #[.slice A1 s0_1.length c1, .int .i64 x10_1] rfl (by (try simp only [List.map_toArray, List.map_cons, List.map_nil]); first | done | rfl | (simp only [List.length_drop, List.length_take]; rfl)) ?_; (with_reducible refine (impl_has.calls _ _ s0_1 x10_1 true _ ?side1 ?side2 A6.out).mono ?_); (case side1 => repeat (first | exact (Kd.C_below HSz8_1 HB.out) | (with_reducible refine Kd.C_alloc ?_ _) | (with_reducible refine Kd.C_drewN ?_ _) | (with_reducible refine Kd.C_drew ?_))); (case side2 => exact hcap1_); rintro e w9 ⟨rfl, hb⟩; refine ⟨_, rfl, ?_⟩; have n0_ := sA (Kd.R_below (sR HO_3.out) hb); have n1_ := sA (IsS31.below (by repeat (first | (with_reducible first | exact HI0.out | apply IsS31.alloc | apply IsS31.drewN | apply IsS31.drew | apply IsS31.set_0) | exact HI0.out)) hb); have n2_ := sA (KeepBut.trans (by repeat (first | (with_reducible first | exact HK.out | apply KeepBut.set_ | apply keep_drewN | apply keep_drew | apply keep_alloc) | exact HK.out)) (KeepBut.of_below hb g none) (.inl rfl)); have n3_ := sA (below_step (by repeat (first | (with_reducible first | exact HB.out | apply sLA | apply sLN | apply sLD | refine sLS ?_ (IsS31.ge HI0.out)) | exact HB.out)) hb); clear HO_3; clear HI0; clear HK; clear HB; have HO_3 := n0_; have HI0 := n1_; have HK := n2_; have HB := n3_; clear n0_ n1_ n2_ n3_; (try clear hb); (try clear hb2); (try clear hk); (try clear hi)))
     go_roundg k1
     case measure => have := HK1.out; omega
     case rel => exact ⟨(x3_1), (wrap64 (x10_1 + 1)), (by first | rfl | (simp; done) | (simp [*]; done)), H', ⟨by have := HK1.out; omega⟩, ⟨sR HO_3.out⟩, ⟨by repeat (first | (with_reducible first | exact HI0.out | apply IsS31.alloc | apply IsS31.drewN | apply IsS31.drew | apply IsS31.set_0) | exact HI0.out)⟩, ⟨by repeat (first | (with_reducible first | exact HK.out | apply KeepBut.set_ | apply keep_drewN | apply keep_drew | apply keep_alloc) | exact HK.out)⟩, ⟨by repeat (first | (with_reducible first | exact HB.out | apply sLA | apply sLN | apply sLD | refine sLS ?_ (IsS31.ge HI0.out)) | exact HB.out)⟩⟩
    ·replace c7 := Bool.eq_false_iff.mpr c7
     subst c7
     have H1 : ((slices_Contains_int_int.f k1 s0_2 x10_1).bind fun t105 => (if t105 = true then (impl_Sender_open.l0 k1 x3_1 s0_0 (wrap64 (x10_1 + 1)) s0_0 s0_1 s0_2) else (if x3_1.length < 17592186044416 then (impl_Sender_open.l0 k1 (x3_1 ++ [x10_1]) s0_0 (wrap64 (x10_1 + 1)) s0_0 s0_1 s0_2) else (none)))) = some (r1, r2) := by rw [if_neg (show ¬ (false = true) by decide)] at H; exact H
     clear H
     have H := H1
     clear H1
     replace H := Option.bind_eq_some_iff.mp H
     obtain ⟨t105, A100, H⟩ := H
     replace H : (if t105 = true then (impl_Sender_open.l0 k1 x3_1 s0_0 (wrap64 (x10_1 + 1)) s0_0 s0_1 s0_2) else (if x3_1.length < 17592186044416 then (impl_Sender_open.l0 k1 (x3_1 ++ [x10_1]) s0_0 (wrap64 (x10_1 + 1)) s0_0 s0_1 s0_2) else (none))) = some (r1, r2) := H
     have A10 := sA A100
     clear A100
     by_cases c11 : t105 = true
     ·subst c11
      have H1 : (impl_Sender_open.l0 k1 x3_1 s0_0 (wrap64 (x10_1 + 1)) s0_0 s0_1 s0_2) = some (r1, r2) := by rw [if_pos rfl] at H; exact H
      clear H
      have H := H1
      clear H1
      have H' := sA H
      clear H
      obtain ⟨HGz12, hgz12, HSz12_1, HSz12_2⟩ := HI0.out
      have hcz12_0 := cellS31_0 HGz12
      have hcz12_1 := cellS31_1 HGz12
      have hcz12_2 := cellS31_2 HGz12
      have hfz12_0 := blk_frozen HGz12 0
      clear HGz12 hgz12
      go_wp2_with (first | ((with_reducible refine gate_callee (f := 45) rfl ?_); refine goesL_ (some 18) rfl rfl Try.func45 (by kernel_rfl) rfl #[.slice A1 s0_1.length c1, .int .i64 x10_1] rfl (by (try simp only [List.map_toArray, List.map_cons, List.map_nil]); first | done | rfl | (simp only [List.length_drop, List.length_take]; rfl)) ?_; (with_reducible refine (impl_has.calls _ _ s0_1 x10_1 false _ ?side1 ?side2 A6.out).mono ?_); (case side1 => repeat (first | exact (Kd.C_below HSz12_1 HB.out) | (with_reducible refine Kd.C_alloc ?_ _) | (with_reducible refine Kd.C_drewN ?_ _) | (with_reducible refine Kd.C_drew ?_))); (case side2 => exact hcap1_); rintro e w13 ⟨rfl, hb⟩; refine ⟨_, rfl, ?_⟩; have n0_ := sA (Kd.R_below (sR HO_3.out) hb); have n1_ := sA (IsS31.below (by repeat (first | (with_reducible first | exact HI0.out | apply IsS31.alloc | apply IsS31.drewN | apply IsS31.drew | apply IsS31.set_0) | exact HI0.out)) hb); have n2_ := sA (KeepBut.trans (by repeat (first | (with_reducible first | exact HK.out | apply KeepBut.set_ | apply keep_drewN | apply keep_drew | apply keep_alloc) | exact HK.out)) (KeepBut.of_below hb g none) (.inl rfl)); have n3_ := sA (below_step (by repeat (first | (with_reducible first | exact HB.out | apply sLA | apply sLN | apply sLD | refine sLS ?_ (IsS31.ge HI0.out)) | exact HB.out)) hb); clear HO_3; clear HI0; clear HK; clear HB; have HO_3 := n0_; have HI0 := n1_; have HK := n2_; have HB := n3_; clear n0_ n1_ n2_ n3_; (try clear hb); (try clear hb2); (try clear hk); (try clear hi); obtain ⟨HGz14, hgz14, HSz14_1, HSz14_2⟩ := HI0.out; have hcz14_0 := cellS31_0 HGz14; have hcz14_1 := cellS31_1 HGz14; have hcz14_2 := cellS31_2 HGz14; have hfz14_0 := blk_frozen HGz14 0; clear HGz14 hgz14) | (go_at_call 64; (with_reducible refine (slices_Contains_int_int.calls k1 _ _ s0_2 x10_1 true _ ?side1 ?side2 A10.out).mono ?_); (case side1 => repeat (first | exact (Kd.C_below HSz14_2 HB.out) | (with_reducible refine Kd.C_alloc ?_ _) | (with_reducible refine Kd.C_drewN ?_ _) | (with_reducible refine Kd.C_drew ?_))); (case side2 => exact hcap2_); rintro e w' ⟨rfl, ⟨nd, rfl⟩⟩))
      go_roundg k1
      case measure => have := HK1.out; omega
      case rel => exact ⟨(x3_1), (wrap64 (x10_1 + 1)), (by first | rfl | (simp; done) | (simp [*]; done)), H', ⟨by have := HK1.out; omega⟩, ⟨sR HO_3.out⟩, ⟨by repeat (first | (with_reducible first | exact HI0.out | apply IsS31.alloc | apply IsS31.drewN | apply IsS31.drew | apply IsS31.set_0) | exact HI0.out)⟩, ⟨by repeat (first | (with_reducible first | exact HK.out | apply KeepBut.set_ | apply keep_drewN | apply keep_drew | apply keep_alloc) | exact HK.out)⟩, ⟨by repeat (first | (with_reducible first | exact HB.out | apply sLA | apply sLN | apply sLD | refine sLS ?_ (IsS31.ge HI0.out)) | exact HB.out)⟩⟩
     ·replace c11 := Bool.eq_false_iff.mpr c11
      subst c11
      have H1 : (if x3_1.length < 17592186044416 then (impl_Sender_open.l0 k1 (x3_1 ++ [x10_1]) s0_0 (wrap64 (x10_1 + 1)) s0_0 s0_1 s0_2) else (none)) = some (r1, r2) := by rw [if_neg (show ¬ (false = true) by decide)] at H; exact H
      clear H
      have H := H1
      clear H1
      by_cases c15 : x3_1.length < 17592186044416
      ·rw [if_pos c15] at H
       have LMc15 := sA c15
       clear c15
       obtain ⟨y106, hy106⟩ : ∃ y_ : List Int, y_ = (x3_1 ++ [x10_1]) := ⟨_, rfl⟩
       replace H : (impl_Sender_open.l0 k1 y106 s0_0 (wrap64 (x10_1 + 1)) s0_0 s0_1 s0_2) = some (r1, r2) := by first | (rw [hy106]; with_reducible exact H) | (have H2_ := (Option.bind_some _ _).symm.trans H; rw [hy106]; with_reducible exact H2_) | (have H2_ := (Option.bind_some _ _).symm.trans H; with_reducible exact H2_) | with_reducible exact H | (rw [hy106]; exact H) | exact H
       have Ny106 := sA hy106
       clear hy106
       have H' := sA H
       clear H
       obtain ⟨HGz16, hgz16, HSz16_1, HSz16_2⟩ := HI0.out
       have hcz16_0 := cellS31_0 HGz16
       have hcz16_1 := cellS31_1 HGz16
       have hcz16_2 := cellS31_2 HGz16
       have hfz16_0 := blk_frozen HGz16 0
       clear HGz16 hgz16
       go_wp2_with (first | ((with_reducible refine gate_callee (f := 45) rfl ?_); refine goesL_ (some 18) rfl rfl Try.func45 (by kernel_rfl) rfl #[.slice A1 s0_1.length c1, .int .i64 x10_1] rfl (by (try simp only [List.map_toArray, List.map_cons, List.map_nil]); first | done | rfl | (simp only [List.length_drop, List.length_take]; rfl)) ?_; (with_reducible refine (impl_has.calls _ _ s0_1 x10_1 false _ ?side1 ?side2 A6.out).mono ?_); (case side1 => repeat (first | exact (Kd.C_below HSz16_1 HB.out) | (with_reducible refine Kd.C_alloc ?_ _) | (with_reducible refine Kd.C_drewN ?_ _) | (with_reducible refine Kd.C_drew ?_))); (case side2 => exact hcap1_); rintro e w17 ⟨rfl, hb⟩; refine ⟨_, rfl, ?_⟩; have n0_ := sA (Kd.R_below (sR HO_3.out) hb); have n1_ := sA (IsS31.below (by repeat (first | (with_reducible first | exact HI0.out | apply IsS31.alloc | apply IsS31.drewN | apply IsS31.drew | apply IsS31.set_0) | exact HI0.out)) hb); have n2_ := sA (KeepBut.trans (by repeat (first | (with_reducible first | exact HK.out | apply KeepBut.set_ | apply keep_drewN | apply keep_drew | apply keep_alloc) | exact HK.out)) (KeepBut.of_below hb g none) (.inl rfl)); have n3_ := sA (below_step (by repeat (first | (with_reducible first | exact HB.out | apply sLA | apply sLN | apply sLD | refine sLS ?_ (IsS31.ge HI0.out)) | exact HB.out)) hb); clear HO_3; clear HI0; clear HK; clear HB; have HO_3 := n0_; have HI0 := n1_; have HK := n2_; have HB := n3_; clear n0_ n1_ n2_ n3_; (try clear hb); (try clear hb2); (try clear hk); (try clear hi); obtain ⟨HGz18, hgz18, HSz18_1, HSz18_2⟩ := HI0.out; have hcz18_0 := cellS31_0 HGz18; have hcz18_1 := cellS31_1 HGz18; have hcz18_2 := cellS31_2 HGz18; have hfz18_0 := blk_frozen HGz18 0; clear HGz18 hgz18) | (go_at_call 64; (with_reducible refine (slices_Contains_int_int.calls k1 _ _ s0_2 x10_1 false _ ?side1 ?side2 A10.out).mono ?_); (case side1 => repeat (first | exact (Kd.C_below HSz18_2 HB.out) | (with_reducible refine Kd.C_alloc ?_ _) | (with_reducible refine Kd.C_drewN ?_ _) | (with_reducible refine Kd.C_drew ?_))); (case side2 => exact hcap2_); rintro e w' ⟨rfl, ⟨nd, rfl⟩⟩) | ((with_reducible refine gate_builtin (b := .append) (xs := #[.tmp 29, .tmp 31]) rfl ?_); at_builtin; refine Kd.R_append (Kd.int .i64) w.heap.size rfl (.tmp 29) (.tmp 31) 23 3 (.int .i64 0) 8 rfl Try.underlying23 info3 rfl (by decide) (by omega) u3 x3_1 x10_1 [.int .i64 x10_1] (fun _ => True) (fun _ => False) rfl rfl ?aP (fun _ hk => hk.elim) ?aF ?aO (Below.refl _ _) ?aS ?aL ?_; (case aP => exact rfl); (case aF => exact (fun _ _ => trivial)); (case aO => exact (sR HO_3.out)); (case aS => exact (keep_size (w := w) (g := g) (row := none) (by repeat (first | (with_reducible first | exact HK.out | apply KeepBut.set_ | apply keep_drewN | apply keep_drew | apply keep_alloc) | exact HK.out)))); (case aL => have := LMc15.out; omega); intro v107 w19 ho hb hg hat; rw [← Ny106.out] at ho; have n0_ := sA (IsS31.grown (by repeat (first | (with_reducible first | exact HI0.out | apply IsS31.alloc | apply IsS31.drewN | apply IsS31.drew | apply IsS31.set_0) | exact HI0.out)) hg (IsS31.own_ne HI0.out HO_3.out (by decide))); have n1_ := sA (below_weaken (by repeat (first | (with_reducible first | exact HB.out | apply sLA | apply sLN | apply sLD | refine sLS ?_ (IsS31.ge HI0.out)) | exact HB.out)) HL.out hb); have n2_ := sA (KeepBut.trans (by repeat (first | (with_reducible first | exact HK.out | apply KeepBut.set_ | apply keep_drewN | apply keep_drew | apply keep_alloc) | exact HK.out)) (KeepBut.of_grown hg g) (Kd.R_base2 HO_3.out)); have n3_ := sA (ho); clear HI0; clear HB; clear HK; clear HO_3; have HI0 := n0_; have HB := n1_; have HK := n2_; have HO108 := n3_; clear n0_ n1_ n2_ n3_; clear ho hb hg hat))
       go_roundg k1
       case measure => have := HK1.out; omega
       case rel => exact ⟨(y106), (wrap64 (x10_1 + 1)), (by first | rfl | (simp; done) | (simp [*]; done)), H', ⟨by have := HK1.out; omega⟩, ⟨sR HO108.out⟩, ⟨by repeat (first | (with_reducible first | exact HI0.out | apply IsS31.alloc | apply IsS31.drewN | apply IsS31.drew | apply IsS31.set_0) | exact HI0.out)⟩, ⟨by repeat (first | (with_reducible first | exact HK.out | apply KeepBut.set_ | apply keep_drewN | apply keep_drew | apply keep_alloc) | exact HK.out)⟩, ⟨by repeat (first | (with_reducible first | exact HB.out | apply sLA | apply sLN | apply sLD | refine sLS ?_ (IsS31.ge HI0.out)) | exact HB.out)⟩⟩
      ·rw [if_neg c15] at H
       exact absurd H (by simp)
   ·rw [if_neg c5] at H
    have c5b0 : decide (x10_1 < s0_0) = false := decide_eq_false c5
    clear c5
    simp only [Option.some.injEq, Prod.mk.injEq] at H
    obtain ⟨rfl, rfl⟩ := H
    go_wp2
    go_ret
    exact ⟨_, by first | rfl | (simp [errW_none, errW_some] <;> rfl) | (simp [*, errW_none, errW_some] <;> rfl), by (with_reducible repeat (first | apply Kd.R_alloc | apply Kd.R_drewN | apply Kd.R_drew)); exact HO_3.out, by repeat (first | (with_reducible first | exact HI0.out | apply IsS31.alloc | apply IsS31.drewN | apply IsS31.drew | apply IsS31.set_0) | exact HI0.out), by repeat (first | (with_reducible first | exact HB.out | apply sLA | apply sLN | apply sLD | refine sLS ?_ (IsS31.ge HI0.out)) | exact HB.out), by repeat (first | (with_reducible first | exact HK.out | apply KeepBut.set_ | apply keep_drewN | apply keep_drew | apply keep_alloc) | exact HK.out)⟩

end Go.Proofs.Ytligcknlmbgbiaa.P

namespace Go.Proofs.Ytligcknlmbgbiaa.P
open Go.RowKit Go.Proofs.YtligcknlmbgbiaaW.PrintWords Go.Proofs.YtligcknlmbgbiaaW.PrintLast Go.Proofs.YtligcknlmbgbiaaW.PrintMore
attribute [local go_sem] max2_int min2_int max_two min_two max_three min_three max_four min_four
set_option linter.unusedVariables false
set_option linter.unusedSimpArgs false

/-! ### impl_Span_82: function 82 (by hand) -/
-- the call of (*Sender).open in OpenIn (in the turned form the sender's value stands for its box)
theorem open_keeps : ∀ (k : Nat) (x3 : List Int) (x9 x10 a : Int) (l1 : List S59) (l2 : List Int) (q : List Int × Int), impl_Sender_open.l0 k x3 x9 x10 a l1 l2 = some q → q.2 = a := by
  intro k
  induction k with
  | zero => intro x3 x9 x10 a l1 l2 q h; simp [impl_Sender_open.l0] at h
  | succ k ih =>
    intro x3 x9 x10 a l1 l2 q h
    rw [impl_Sender_open.l0] at h
    split at h
    · obtain ⟨t, _, h⟩ := Option.bind_eq_some_iff.1 h
      split at h
      · exact ih _ _ _ _ _ _ _ h
      · obtain ⟨t2, _, h⟩ := Option.bind_eq_some_iff.1 h
        split at h
        · exact ih _ _ _ _ _ _ _ h
        · split at h
          · exact ih _ _ _ _ _ _ _ h
          · cases h
    · obtain rfl := Option.some.inj h
      rfl
theorem below_of_state {w0 W w' : World} {g : Nat} {o : Obj} (hB : Below w0.heap.size w0 W) (h0 : W.heap[g]? = some o) (h1 : w'.heap[g]? = some o) (h2 : Below w0.heap.size w0 w') (h3 : KeepBut W w' g none) : Below W.heap.size W w' := by
  refine ⟨h2.os.trans hB.os.symm, h2.tape.trans hB.tape.symm, h2.output.trans hB.output.symm, h3.1, fun k hk => ?_⟩
  by_cases hg : k = g
  · subst hg
    exact h1.trans h0.symm
  · exact h3.2 k hk hg (by simp)
def impl_Span_82.f (k : Nat) (a0 : Int) (l1 : List S59) (l2 : List Int) : Option (List Int) := (impl_Sender_open.f k a0 l1 l2).bind fun q => some q.1
theorem impl_Span_82.calls (k : Nat) (a0 : Int) (A1 : Option Addr) (c1 : Nat) (l1 : List S59) (A2 : Option Addr) (c2 : Nat) (l2 : List Int) (r : List Int) (w : World) (hr1 : Kd.C k59 w A1 l1.length l1) (hc1 : l1.length ≤ c1) (hr2 : Kd.C (Kd.int .i64) w A2 l2.length l2) (hc2 : l2.length ≤ c2) (h : impl_Span_82.f k a0 l1 l2 = some r)
    {w0 : World} {g : Nat} (hI : IsS31 A1 c1 A2 c2 w0 w g a0 l1 l2) (hB : Below w0.heap.size w0 w) :
    Calls Try.prog 36 #[.pointer (some ⟨g, 0, none⟩)] w fun e w' => ∃ v0_ : Value, e = .returned (v0_) ∧ Kd.R (Kd.int .i64) 3 w' w.heap.size (fun _ => True) v0_ r ∧ Below w.heap.size w w' := by
  obtain ⟨q, hq, h⟩ := Option.bind_eq_some_iff.1 h
  obtain rfl := Option.some.inj h
  have hk := open_keeps k [] a0 0 a0 l1 l2 q hq
  obtain ⟨q1, q2⟩ := q
  dsimp only at hk ⊢
  subst hk
  refine (impl_Sender_open.calls (A1 := A1) (c1 := c1) (A2 := A2) (c2 := c2) k g q2 l1 l2 q1 q2 w0 w hI hB hc1 hc2 hq).mono ?_
  rintro e w' ⟨v, rfl, hR, h1, h2, h3⟩
  exact ⟨v, rfl, hR, below_of_state hB hI.1 h1.1 h2 h3⟩
-- .. in HearSpans: the box is told with what lies in it now
theorem impl_Span_82.calls2 (k : Nat) (a0 : Int) (A1 : Option Addr) (c1 : Nat) (l1 : List S59) (A2 : Option Addr) (c2 : Nat) (l2 : List Int) (r : List Int) (w : World) (hr1 : Kd.C k59 w A1 l1.length l1) (hc1 : l1.length ≤ c1) (hr2 : Kd.C (Kd.int .i64) w A2 l2.length l2) (hc2 : l2.length ≤ c2) (h : impl_Span_82.f k a0 l1 l2 = some r)
    {g : Nat} (hb : w.heap[g]? = some (.cells #[.int .i64 a0, .slice A1 l1.length c1, .slice A2 l2.length c2] 31 (0, 0))) :
    Calls Try.prog 36 #[.pointer (some ⟨g, 0, none⟩)] w fun e w' => ∃ v0_ : Value, e = .returned (v0_) ∧ Kd.R (Kd.int .i64) 3 w' w.heap.size (fun _ => True) v0_ r ∧ Below w.heap.size w w' :=
  impl_Span_82.calls k a0 A1 c1 l1 A2 c2 l2 r w hr1 hc1 hr2 hc2 h (w0 := w) (g := g) ⟨hb, Nat.lt_or_ge g w.heap.size |>.symm, hr1, hr2⟩ (Below.refl _ _)


end Go.Proofs.Ytligcknlmbgbiaa.P

namespace Go.Proofs.Ytligcknlmbgbiaa.P
open Go.RowKit Go.Proofs.YtligcknlmbgbiaaW.PrintWords Go.Proofs.YtligcknlmbgbiaaW.PrintLast Go.Proofs.YtligcknlmbgbiaaW.PrintMore
attribute [local go_sem] max2_int min2_int max_two min_two max_three min_three max_four min_four
set_option linter.unusedVariables false
set_option linter.unusedSimpArgs false

/-! ### impl_HearSpans: function 23 -/
mutual
def impl_HearSpans.j0 : Nat → List (S59) → Bool → Int → List (S59) → List Int → Option (Int × (List (S59)) × List Int × List Int × List Int × Bool)
  | 0, _, _, _, _, _ => none
  | k + 1, x1, x26, x102000, x102001, x102002 => if x26 = true then (some (0, ([] : List (S59)), ([] : List Int), ([] : List Int), ([] : List Int), false)) else ((impl_JoinSpans.f k x102001 x1).bind fun bt105 => (if bt105.2 = true then (impl_HearSpans.l0 k (([] : List Int)) (([] : List Int)) x102000 0 x102000 x102001 x102002 bt105.1) else (some (0, ([] : List (S59)), ([] : List Int), ([] : List Int), ([] : List Int), false))))
def impl_HearSpans.l0 : Nat → List Int → List Int → Int → Int → Int → List (S59) → List Int → List (S59) → Option (Int × (List (S59)) × List Int × List Int × List Int × Bool)
  | 0, _, _, _, _, _, _, _, _ => none
  | k + 1, x10, x11, x41, x42, x102000, x102001, x102002, x110000 => if x42 < x41 then ((impl_has.f x110000 x42).bind fun t116 => (if t116 = true then ((impl_has.f x102001 x42).bind fun t117 => (if t117 = true then (impl_HearSpans.l0 k x10 x11 x41 (wrap64 (x42 + 1)) x102000 x102001 x102002 x110000) else (if x10.length < 17592186044416 then (impl_HearSpans.l0 k (x10 ++ [x42]) x11 x41 (wrap64 (x42 + 1)) x102000 x102001 x102002 x110000) else (none)))) else (impl_HearSpans.l0 k x10 x11 x41 (wrap64 (x42 + 1)) x102000 x102001 x102002 x110000))) else ((slices_Clone_int_int.f x102002).bind fun t121 => ((slices_DeleteFunc_int_int.f t121 x110000).bind fun t124 => (if (x110000.length : Int) > 0 then (if 0 ≤ (wrap64 ((x110000.length : Int) - 1)) then (if (wrap64 ((x110000.length : Int) - 1)) < (x110000.length : Int) then ((impl_Span_82.f k x102000 x110000 t124).bind fun t129 => (impl_HearSpans.l1 k x10 x11 (wrap64 (((rd_T59 x110000 (wrap64 ((x110000.length : Int) - 1))).f1) - 1)) t129 (t129.length : Int) 0 x102000 x110000 t124)) else (none)) else (none)) else (if t124.length + x11.length < 17592186044416 then ((slices_Sort_int_int.f (t124 ++ x11)).bind fun t143 => (some (x102000, x110000, t143, x10, x11, true))) else (none)))))
def impl_HearSpans.l1 : Nat → List Int → List Int → Int → List Int → Int → Int → Int → List (S59) → List Int → Option (Int × (List (S59)) × List Int × List Int × List Int × Bool)
  | 0, _, _, _, _, _, _, _, _, _ => none
  | k + 1, x10, x11, x14, x80, x81, x82, x128000, x128001, x128002 => if x82 < x81 then (if 0 ≤ x82 then (if x82 < (x80.length : Int) then (if x14 ≥ (wrap64 ((rd x80 x82) + 3)) then (if x11.length < 17592186044416 then (impl_HearSpans.l1 k x10 (x11 ++ [rd x80 x82]) x14 x80 x81 (wrap64 (x82 + 1)) x128000 x128001 x128002) else (none)) else (impl_HearSpans.l1 k x10 x11 x14 x80 x81 (wrap64 (x82 + 1)) x128000 x128001 x128002)) else (none)) else (none)) else (if x128002.length + x11.length < 17592186044416 then ((slices_Sort_int_int.f (x128002 ++ x11)).bind fun t139 => (some (x128000, x128001, t139, x10, x11, true))) else (none))
end
def impl_HearSpans.f (k : Nat) (a0_0 : Int) (l0_1 : List (S59)) (l0_2 : List Int) (l1 : List (S59)) : Option (Int × (List (S59)) × List Int × List Int × List Int × Bool) := (impl_GoodSender.f k a0_0 l0_1 l0_2).bind fun t103 => (if t103 = true then ((impl_areBelow.f k l1 a0_0).bind fun t104 => (impl_HearSpans.j0 k l1 (!t104) a0_0 l0_1 l0_2)) else (impl_HearSpans.j0 k l1 true a0_0 l0_1 l0_2))
def impl_HearSpans.T13 : Bool × List (List Nat × List Nat) := (true, [([], []), ([0], [0]), ([], []), ([], []), ([3], [3]), ([4], [4]), ([], []), ([5, 6, 5], [5, 6]), ([1, 2, 7], [1, 2, 7]), ([], []), ([9, 8, 7, 0, 1, 2, 3, 4, 5, 6, 7, 8, 9], [8, 9])])
def impl_HearSpans.B13 : List Nat := [0, 1, 0, 0, 8, 24, 0, 120, 255, 0, 1023]
theorem impl_HearSpans.tab13 : rtab .any (opsOf Try.f23 13) = impl_HearSpans.T13 := by kernel_rfl
theorem impl_HearSpans.bits13 : waitsOk impl_HearSpans.T13.2 impl_HearSpans.B13 = true := by kernel_rfl
set_option maxHeartbeats 8000000 in
set_option maxRecDepth 100000 in
theorem impl_HearSpans.calls (k : Nat) (a0_0 : Int) (A0_1 : Option Addr) (c0_1 : Nat) (l0_1 : List (S59)) (A0_2 : Option Addr) (c0_2 : Nat) (l0_2 : List Int) (A1 : Option Addr) (c1 : Nat) (l1 : List (S59)) (r1 : Int) (r2 : List (S59)) (r3 : List Int) (r4 : List Int) (r5 : List Int) (r6 : Bool) (w : World) (hr0_1 : Kd.C k59 w A0_1 l0_1.length l0_1) (hc0_1 : l0_1.length ≤ c0_1) (hr0_2 : Kd.C (Kd.int .i64) w A0_2 l0_2.length l0_2) (hc0_2 : l0_2.length ≤ c0_2) (hr1 : Kd.C k59 w A1 l1.length l1) (hc1 : l1.length ≤ c1) (h : impl_HearSpans.f k a0_0 l0_1 l0_2 l1 = some (r1, r2, r3, r4, r5, r6)) :
  Calls Try.prog 23 #[.agg #[.int .i64 a0_0, .slice A0_1 l0_1.length c0_1, .slice A0_2 l0_2.length c0_2], .slice A1 l1.length c1] w fun e w' => ∃ v1_ v2_ v3_ v4_ : Value, e = .returned (.tuple #[.agg #[.int .i64 r1, v1_, v2_], v3_, v4_, .bool r6]) ∧ Kd.R k59 59 w' w.heap.size (fun _ => True) v1_ r2 ∧ Kd.R (Kd.int .i64) 3 w' w.heap.size (fun k_ => some k_ ≠ (v3_ : Value).ownBlock ∧ some k_ ≠ (v4_ : Value).ownBlock) v2_ r3 ∧ Kd.R (Kd.int .i64) 3 w' w.heap.size (fun k_ => some k_ ≠ (v2_ : Value).ownBlock ∧ some k_ ≠ (v4_ : Value).ownBlock) v3_ r4 ∧ Kd.R (Kd.int .i64) 3 w' w.heap.size (fun k_ => some k_ ≠ (v2_ : Value).ownBlock ∧ some k_ ≠ (v3_ : Value).ownBlock) v4_ r5 ∧ Below w.heap.size w w' := by
 have hu31 := Try.underlying31
 have HR0_1 := sA hr0_1
 have HC0_1 := sA hc0_1
 clear hr0_1 hc0_1
 have HR0_2 := sA hr0_2
 have HC0_2 := sA hc0_2
 clear hr0_2 hc0_2
 have HR1 := sA hr1
 have HC1 := sA hc1
 clear hr1 hc1
 have HB := sA (Below.refl w.heap.size w)
 have H : ((impl_GoodSender.f k a0_0 l0_1 l0_2).bind fun t103 => (if t103 = true then ((impl_areBelow.f k l1 a0_0).bind fun t104 => (impl_HearSpans.j0 k l1 (!t104) a0_0 l0_1 l0_2)) else (impl_HearSpans.j0 k l1 true a0_0 l0_1 l0_2))) = some (r1, r2, r3, r4, r5, r6) := h
 clear h
 have HC3 := sA H
 clear H
 go_enter Try.func23, Try.ntmps23
 go_upto_region 1 with (first | ((with_reducible refine gate_dst (N := 2) rfl ?_); refine box_event ?hg (N := 2) ?hd (cs := #[.int .i64 a0_0, .slice A0_1 l0_1.length c0_1, .slice A0_2 l0_2.length c0_2]) (t := 31) ?hr ?_; (case hd => rfl); (case hg => rfl); (case hr => first | (go_simp; done) | (go_simp; rfl)); intro gb101 hg w4 hbox hb; have n0_ := sA (below_step (by repeat (first | (with_reducible first | exact HB.out | apply sLA | apply sLN | apply sLD) | exact HB.out)) hb); have n1_ := sA (hbox); have n2_ := sA ((by rw [hg]; exact (below_size (by repeat (first | (with_reducible first | exact HB.out | apply sLA | apply sLN | apply sLD) | exact HB.out))) : w.heap.size ≤ gb101)); have n3_ := sA ((by rw [hg]; exact (below_size (by repeat (first | (with_reducible first | exact HB.out | apply sLA | apply sLN | apply sLD) | exact HB.out))) : w.heap.size ≤ gb101)); clear HB; have HB := n0_; have BK101 := n1_; have GW101 := n2_; have GE101 := n3_; clear n0_ n1_ n2_ n3_; clear hb hbox hg) | ((with_reducible refine gate_dst (N := 4) rfl ?_); refine box_event ?hg (N := 4) ?hd (cs := #[.int .i64 0, .slice none 0 0, .slice none 0 0]) (t := 31) ?hr ?_; (case hd => rfl); (case hg => rfl); (case hr => first | (go_simp; done) | (go_simp; rfl)); intro gb102 hg w5 hbox hb; have n0_ := sA (blk_below (sB BK101.out) hb); have n1_ := sA (below_step (by repeat (first | (with_reducible first | exact HB.out | apply sLA | apply sLN | apply sLD | refine sLS ?_ GE101.out) | exact HB.out)) hb); have n2_ := sA (hbox); have n3_ := sA ((by rw [hg]; exact (below_size (by repeat (first | (with_reducible first | exact HB.out | apply sLA | apply sLN | apply sLD | refine sLS ?_ GE101.out) | exact HB.out))) : w.heap.size ≤ gb102)); have n4_ := sA ((by rw [hg]; exact (below_size (by repeat (first | (with_reducible first | exact HB.out | apply sLA | apply sLN | apply sLD | refine sLS ?_ GE101.out) | exact HB.out))) : w.heap.size ≤ gb102)); have n5_ := sA ((by rw [hg]; exact Nat.ne_of_lt (blk_lt (sB BK101.out)) : gb101 ≠ gb102)); have n6_ := sA ((by rw [hg]; exact Nat.ne_of_gt (blk_lt (sB BK101.out)) : gb102 ≠ gb101)); clear BK101; clear HB; have BK101 := n0_; have HB := n1_; have BK102 := n2_; have GW102 := n3_; have GE102 := n4_; have NB101_102 := n5_; have NB102_101 := n6_; clear n0_ n1_ n2_ n3_ n4_ n5_ n6_; clear hb hbox hg))
 (try simp only [Act.put, sI, sZ, sV])
 go_cut [26] (fun v26 wc => ∃ (kq : Nat) (x26_2 : Bool), v26 = .bool x26_2 ∧ Aside0 (impl_HearSpans.j0 kq l1 x26_2 a0_0 l0_1 l0_2 = some (r1, r2, r3, r4, r5, r6)) ∧ Aside0 (kq ≤ k) ∧ Aside0 (wc.heap[gb101]? = some (.cells #[.int .i64 a0_0, (.slice A0_1 l0_1.length c0_1), (.slice A0_2 l0_2.length c0_2)] 31 (0, 0))) ∧ Aside0 (wc.heap[gb102]? = some (.cells #[.int .i64 0, (.slice none 0 0), (.slice none 0 0)] 31 (0, 0))) ∧ Aside0 (Below w.heap.size w wc))
 case first =>
  have H := HC3.out
  clear HC3
  replace H := Option.bind_eq_some_iff.mp H
  obtain ⟨t103, A60, H⟩ := H
  replace H : (if t103 = true then ((impl_areBelow.f k l1 a0_0).bind fun t104 => (impl_HearSpans.j0 k l1 (!t104) a0_0 l0_1 l0_2)) else (impl_HearSpans.j0 k l1 true a0_0 l0_1 l0_2)) = some (r1, r2, r3, r4, r5, r6) := H
  have A6 := sA A60
  clear A60
  by_cases c7 : t103 = true
  ·subst c7
   have H1 : ((impl_areBelow.f k l1 a0_0).bind fun t104 => (impl_HearSpans.j0 k l1 (!t104) a0_0 l0_1 l0_2)) = some (r1, r2, r3, r4, r5, r6) := by rw [if_pos rfl] at H; exact H
   clear H
   have H := H1
   clear H1
   replace H := Option.bind_eq_some_iff.mp H
   obtain ⟨t104, A80, H⟩ := H
   replace H : (impl_HearSpans.j0 k l1 (!t104) a0_0 l0_1 l0_2) = some (r1, r2, r3, r4, r5, r6) := H
   have A8 := sA A80
   clear A80
   have H' := sA H
   clear H
   have hnb9 := NB101_102.out
   have hnc9 := NB102_101.out
   have hcz10_0 : w5.cell? ⟨gb101, 0, none⟩ = some (.int .i64 a0_0) := sC BK101 0 rfl
   have hcz10_1 : w5.cell? ⟨gb101, 1, none⟩ = some (.slice A0_1 l0_1.length c0_1) := sC BK101 1 rfl
   have hcz10_2 : w5.cell? ⟨gb101, 2, none⟩ = some (.slice A0_2 l0_2.length c0_2) := sC BK101 2 rfl
   have hfz10_0 := blk_frozen BK101.out 0
   have hfz10_1 := blk_frozen BK101.out 1
   have hfz10_2 := blk_frozen BK101.out 2
   go_wp2_with (first | ((with_reducible refine gate_callee (f := 35) rfl ?_); refine goesL_ (some 18) rfl rfl Try.func35 (by kernel_rfl) rfl #[.agg #[.int .i64 a0_0, .slice A0_1 l0_1.length c0_1, .slice A0_2 l0_2.length c0_2]] rfl (by (try simp only [List.map_toArray, List.map_cons, List.map_nil]); first | done | rfl | (simp only [List.length_drop, List.length_take]; rfl)) ?_; (with_reducible refine (impl_GoodSender.calls k a0_0 _ _ l0_1 _ _ l0_2 true _ ?side1 ?side2 ?side3 ?side4 A6.out).mono ?_); (case side1 => repeat (first | exact (Kd.C_below HR0_1.out HB.out) | (with_reducible refine Kd.C_alloc ?_ _) | (with_reducible refine Kd.C_drewN ?_ _) | (with_reducible refine Kd.C_drew ?_))); (case side2 => exact HC0_1.out); (case side3 => repeat (first | exact (Kd.C_below HR0_2.out HB.out) | (with_reducible refine Kd.C_alloc ?_ _) | (with_reducible refine Kd.C_drewN ?_ _) | (with_reducible refine Kd.C_drew ?_))); (case side4 => exact HC0_2.out); rintro e w11 ⟨rfl, hb⟩; refine ⟨_, rfl, ?_⟩; have n0_ := sA (blk_below (sB BK101.out) hb); have n1_ := sA (blk_below (sB BK102.out) hb); have n2_ := sA (below_step (by repeat (first | (with_reducible first | exact HB.out | apply sLA | apply sLN | apply sLD | refine sLS ?_ (Aside0.out (by assumption))) | exact HB.out)) hb); clear BK101; clear BK102; clear HB; have BK101 := n0_; have BK102 := n1_; have HB := n2_; clear n0_ n1_ n2_; (try clear hb); (try clear hb2); (try clear hk); (try clear hi); have hcz12_0 : w11.cell? ⟨gb101, 0, none⟩ = some (.int .i64 a0_0) := sC BK101 0 rfl; have hcz12_1 : w11.cell? ⟨gb101, 1, none⟩ = some (.slice A0_1 l0_1.length c0_1) := sC BK101 1 rfl; have hcz12_2 : w11.cell? ⟨gb101, 2, none⟩ = some (.slice A0_2 l0_2.length c0_2) := sC BK101 2 rfl; have hfz12_0 := blk_frozen BK101.out 0; have hfz12_1 := blk_frozen BK101.out 1; have hfz12_2 := blk_frozen BK101.out 2) | (go_at_call 43; (with_reducible refine (impl_areBelow.calls k _ _ l1 a0_0 t104 _ ?side1 ?side2 A8.out).mono ?_); (case side1 => repeat (first | exact (Kd.C_below HR1.out HB.out) | (with_reducible refine Kd.C_alloc ?_ _) | (with_reducible refine Kd.C_drewN ?_ _) | (with_reducible refine Kd.C_drew ?_))); (case side2 => exact HC1.out); rintro e w13 ⟨rfl, hb⟩; have n0_ := sA (blk_below (sB BK101.out) hb); have n1_ := sA (blk_below (sB BK102.out) hb); have n2_ := sA (below_step (by repeat (first | (with_reducible first | exact HB.out | apply sLA | apply sLN | apply sLD | refine sLS ?_ (Aside0.out (by assumption))) | exact HB.out)) hb); clear BK101; clear BK102; clear HB; have BK101 := n0_; have BK102 := n1_; have HB := n2_; clear n0_ n1_ n2_; (try clear hb); (try clear hb2); (try clear hk); (try clear hi)))
   go_meet
   case rel => exact ⟨_, (!t104), (by first | rfl | (simp; done) | (simp [*]; done)), H', ⟨by first | omega | exact Nat.le_refl _⟩, ⟨sB BK101.out⟩, ⟨sB BK102.out⟩, ⟨by repeat (first | (with_reducible first | exact HB.out | apply sLA | apply sLN | apply sLD | refine sLS ?_ GE101.out | refine sLS ?_ GE102.out) | exact HB.out)⟩⟩
  ·replace c7 := Bool.eq_false_iff.mpr c7
   subst c7
   have H1 : (impl_HearSpans.j0 k l1 true a0_0 l0_1 l0_2) = some (r1, r2, r3, r4, r5, r6) := by rw [if_neg (show ¬ (false = true) by decide)] at H; exact H
   clear H
   have H := H1
   clear H1
   have H' := sA H
   clear H
   have hnb14 := NB101_102.out
   have hnc14 := NB102_101.out
   have hcz15_0 : w5.cell? ⟨gb101, 0, none⟩ = some (.int .i64 a0_0) := sC BK101 0 rfl
   have hcz15_1 : w5.cell? ⟨gb101, 1, none⟩ = some (.slice A0_1 l0_1.length c0_1) := sC BK101 1 rfl
   have hcz15_2 : w5.cell? ⟨gb101, 2, none⟩ = some (.slice A0_2 l0_2.length c0_2) := sC BK101 2 rfl
   have hfz15_0 := blk_frozen BK101.out 0
   have hfz15_1 := blk_frozen BK101.out 1
   have hfz15_2 := blk_frozen BK101.out 2
   go_wp2_with (first | ((with_reducible refine gate_callee (f := 35) rfl ?_); refine goesL_ (some 18) rfl rfl Try.func35 (by kernel_rfl) rfl #[.agg #[.int .i64 a0_0, .slice A0_1 l0_1.length c0_1, .slice A0_2 l0_2.length c0_2]] rfl (by (try simp only [List.map_toArray, List.map_cons, List.map_nil]); first | done | rfl | (simp only [List.length_drop, List.length_take]; rfl)) ?_; (with_reducible refine (impl_GoodSender.calls k a0_0 _ _ l0_1 _ _ l0_2 false _ ?side1 ?side2 ?side3 ?side4 A6.out).mono ?_); (case side1 => repeat (first | exact (Kd.C_below HR0_1.out HB.out) | (with_reducible refine Kd.C_alloc ?_ _) | (with_reducible refine Kd.C_drewN ?_ _) | (with_reducible refine Kd.C_drew ?_))); (case side2 => exact HC0_1.out); (case side3 => repeat (first | exact (Kd.C_below HR0_2.out HB.out) | (with_reducible refine Kd.C_alloc ?_ _) | (with_reducible refine Kd.C_drewN ?_ _) | (with_reducible refine Kd.C_drew ?_))); (case side4 => exact HC0_2.out); rintro e w16 ⟨rfl, hb⟩; refine ⟨_, rfl, ?_⟩; have n0_ := sA (blk_below (sB BK101.out) hb); have n1_ := sA (blk_below (sB BK102.out) hb); have n2_ := sA (below_step (by repeat (first | (with_reducible first | exact HB.out | apply sLA | apply sLN | apply sLD | refine sLS ?_ (Aside0.out (by assumption))) | exact HB.out)) hb); clear BK101; clear BK102; clear HB; have BK101 := n0_; have BK102 := n1_; have HB := n2_; clear n0_ n1_ n2_; (try clear hb); (try clear hb2); (try clear hk); (try clear hi)))
   go_meet
   case rel => exact ⟨_, (true), (by first | rfl | (simp; done) | (simp [*]; done)), H', ⟨by first | omega | exact Nat.le_refl _⟩, ⟨sB BK101.out⟩, ⟨sB BK102.out⟩, ⟨by repeat (first | (with_reducible first | exact HB.out | apply sLA | apply sLN | apply sLD | refine sLS ?_ GE101.out | refine sLS ?_ GE102.out) | exact HB.out)⟩⟩
 case rest =>
  clear HC3
  try clear c1
  try clear c2
  try clear p2
  try clear c3
  try clear c7
  try clear c9
  try clear c14
  try clear hcz10_0
  try clear hcz10_1
  try clear hcz10_2
  try clear hcz12_0
  try clear hcz12_1
  try clear hcz12_2
  try clear hcz15_0
  try clear hcz15_1
  try clear hcz15_2
  try clear hfz10_0
  try clear hfz10_1
  try clear hfz10_2
  try clear hfz12_0
  try clear hfz12_1
  try clear hfz12_2
  try clear hfz15_0
  try clear hfz15_1
  try clear hfz15_2
  obtain ⟨kq, x26_2, rfl, HA, HJ2, BK101, BK102, HB⟩ := hcut
  cases kq with
  | zero => exact absurd HA.out (by simp [impl_HearSpans.j0])
  | succ kj2 =>
   have H := HA.out
   clear HA
   simp only [impl_HearSpans.j0] at H
   by_cases c17 : x26_2 = true
   ·subst c17
    have H1 : (some (0, ([] : List (S59)), ([] : List Int), ([] : List Int), ([] : List Int), false)) = some (r1, r2, r3, r4, r5, r6) := by rw [if_pos rfl] at H; exact H
    clear H
    have H := H1
    clear H1
    simp only [Option.some.injEq, Prod.mk.injEq] at H
    obtain ⟨rfl, rfl, rfl, rfl, rfl, rfl⟩ := H
    have hnb18 := NB102_101.out
    have hnc18 := NB101_102.out
    have hcz19_0 : wc.cell? ⟨gb102, 0, none⟩ = some (.int .i64 0) := sC BK102 0 rfl
    have hcz19_1 : wc.cell? ⟨gb102, 1, none⟩ = some (.slice none 0 0) := sC BK102 1 rfl
    have hcz19_2 : wc.cell? ⟨gb102, 2, none⟩ = some (.slice none 0 0) := sC BK102 2 rfl
    have hfz19_0 := blk_frozen BK102.out 0
    have hfz19_1 := blk_frozen BK102.out 1
    have hfz19_2 := blk_frozen BK102.out 2
    go_wp2
    refine bodyPost_ret (results_list (rs := [.cell 4 31, .tmp 5, .tmp 6, .tmp 7]) rfl (by simp) (.cell gb102 31 #[.int .i64 0, .slice none 0 0, .slice none 0 0] (0, 0) _ rfl (by (with_reducible repeat first | apply blk_drewN | apply blk_drew | apply blk_alloc); refine blk_put (cs := #[.int .i64 0, .slice none 0 0, .slice none 0 0]) ?_ 2 _ rfl; (with_reducible repeat first | apply blk_drewN | apply blk_drew | apply blk_alloc); refine blk_put (cs := #[.int .i64 0, .slice none 0 0, .slice none 0 0]) ?_ 1 _ rfl; (with_reducible repeat first | apply blk_drewN | apply blk_drew | apply blk_alloc); refine blk_put (cs := #[.int .i64 0, .slice none 0 0, .slice none 0 0]) ?_ 0 _ rfl; (with_reducible repeat first | apply blk_drewN | apply blk_drew | apply blk_alloc); exact BK102.out) Try.underlying31 rfl (by kernel_rfl) (.tmp (.tmp (.tmp .nil))))) rfl ?_
    exact ⟨_, _, _, _, by first | rfl | (simp [errW_none, errW_some] <;> rfl) | (simp [*, errW_none, errW_some] <;> rfl), by first | exact Kd.R_nil _ _ _ _ _ | exact Kd.N_nil _ _ _ _ _ | exact Kd.V_nil _ _ _ _ _ | exact Kd.Q_nil _ _ _ _ _ | exact Kd.S_nil _ _ _ _ _, by first | exact Kd.R_nil _ _ _ _ _ | exact Kd.N_nil _ _ _ _ _ | exact Kd.V_nil _ _ _ _ _ | exact Kd.Q_nil _ _ _ _ _ | exact Kd.S_nil _ _ _ _ _, by first | exact Kd.R_nil _ _ _ _ _ | exact Kd.N_nil _ _ _ _ _ | exact Kd.V_nil _ _ _ _ _ | exact Kd.Q_nil _ _ _ _ _ | exact Kd.S_nil _ _ _ _ _, by first | exact Kd.R_nil _ _ _ _ _ | exact Kd.N_nil _ _ _ _ _ | exact Kd.V_nil _ _ _ _ _ | exact Kd.Q_nil _ _ _ _ _ | exact Kd.S_nil _ _ _ _ _, by repeat (first | (with_reducible first | exact HB.out | apply sLA | apply sLN | apply sLD | refine sLS ?_ GE101.out | refine sLS ?_ GE102.out) | exact HB.out)⟩
   ·replace c17 := Bool.eq_false_iff.mpr c17
    subst c17
    have H1 : ((impl_JoinSpans.f kj2 l0_1 l1).bind fun bt105 => (if bt105.2 = true then (impl_HearSpans.l0 kj2 (([] : List Int)) (([] : List Int)) a0_0 0 a0_0 l0_1 l0_2 bt105.1) else (some (0, ([] : List (S59)), ([] : List Int), ([] : List Int), ([] : List Int), false)))) = some (r1, r2, r3, r4, r5, r6) := by rw [if_neg (show ¬ (false = true) by decide)] at H; exact H
    clear H
    have H := H1
    clear H1
    replace H := Option.bind_eq_some_iff.mp H
    obtain ⟨⟨t105, t108⟩, A200, H⟩ := H
    replace H : (if t108 = true then (impl_HearSpans.l0 kj2 (([] : List Int)) (([] : List Int)) a0_0 0 a0_0 l0_1 l0_2 t105) else (some (0, ([] : List (S59)), ([] : List Int), ([] : List Int), ([] : List Int), false))) = some (r1, r2, r3, r4, r5, r6) := H
    have A20 := sA A200
    clear A200
    by_cases c21 : t108 = true
    ·subst c21
     have H1 : (impl_HearSpans.l0 kj2 (([] : List Int)) (([] : List Int)) a0_0 0 a0_0 l0_1 l0_2 t105) = some (r1, r2, r3, r4, r5, r6) := by rw [if_pos rfl] at H; exact H
     clear H
     have H := H1
     clear H1
     obtain ⟨y110, hy110⟩ : ∃ y_ : List Int, y_ = (([] : List Int)) := ⟨_, rfl⟩
     replace H : (impl_HearSpans.l0 kj2 y110 (([] : List Int)) a0_0 0 a0_0 l0_1 l0_2 t105) = some (r1, r2, r3, r4, r5, r6) := by first | (rw [hy110]; with_reducible exact H) | (have H2_ := (Option.bind_some _ _).symm.trans H; rw [hy110]; with_reducible exact H2_) | (have H2_ := (Option.bind_some _ _).symm.trans H; with_reducible exact H2_) | with_reducible exact H | (rw [hy110]; exact H) | exact H
     have Ny110 := sA hy110
     clear hy110
     obtain ⟨y113, hy113⟩ : ∃ y_ : List Int, y_ = (([] : List Int)) := ⟨_, rfl⟩
     replace H : (impl_HearSpans.l0 kj2 y110 y113 a0_0 0 a0_0 l0_1 l0_2 t105) = some (r1, r2, r3, r4, r5, r6) := by first | (rw [hy113]; with_reducible exact H) | (have H2_ := (Option.bind_some _ _).symm.trans H; rw [hy113]; with_reducible exact H2_) | (have H2_ := (Option.bind_some _ _).symm.trans H; with_reducible exact H2_) | with_reducible exact H | (rw [hy113]; exact H) | exact H
     have Ny113 := sA hy113
     clear hy113
     have H' := sA H
     clear H
     have hnb22 := NB101_102.out
     have hnc22 := NB102_101.out
     have hcz23_0 : wc.cell? ⟨gb101, 0, none⟩ = some (.int .i64 a0_0) := sC BK101 0 rfl
     have hcz23_1 : wc.cell? ⟨gb101, 1, none⟩ = some (.slice A0_1 l0_1.length c0_1) := sC BK101 1 rfl
     have hcz23_2 : wc.cell? ⟨gb101, 2, none⟩ = some (.slice A0_2 l0_2.length c0_2) := sC BK101 2 rfl
     have hfz23_0 := blk_frozen BK101.out 0
     have hfz23_1 := blk_frozen BK101.out 1
     have hfz23_2 := blk_frozen BK101.out 2
     go_wp2_with (first | ((with_reducible refine gate_callee (f := 44) rfl ?_); refine goesL_ (some 32) rfl rfl Try.func44 (by kernel_rfl) rfl #[.slice A0_1 l0_1.length c0_1, .slice A1 l1.length c1] rfl (by (try simp only [List.map_toArray, List.map_cons, List.map_nil]); first | done | rfl | (simp only [List.length_drop, List.length_take]; rfl)) ?_; (with_reducible refine (impl_JoinSpans.calls kj2 (fun k_ => k_ < w.heap.size) _ _ l0_1 (fun k_ => k_ < w.heap.size) _ _ l1 t105 true _ ?side1 ?side2 A20.out).mono ?_); (case side1 => exact Kd.V_mk HC0_1.out (Kd.F_below (Kd.C_F k59_heap HR0_1.out) (by repeat (first | (with_reducible first | exact HB.out | apply sLA | apply sLN | apply sLD | refine sLS ?_ (Aside0.out (by assumption))) | exact HB.out)))); (case side2 => exact Kd.V_mk HC1.out (Kd.F_below (Kd.C_F k59_heap HR1.out) (by repeat (first | (with_reducible first | exact HB.out | apply sLA | apply sLN | apply sLD | refine sLS ?_ (Aside0.out (by assumption))) | exact HB.out)))); rintro e w24 ⟨v106, rfl, ho0, hb⟩; refine ⟨_, rfl, ?_⟩; have n0_ := sA (Kd.R_lower (Kd.R_mono (ok' := fun k_ => True) ho0 (fun _ hk_ => trivial)) (below_size (by repeat (first | (with_reducible first | exact HB.out | apply sLA | apply sLN | apply sLD | refine sLS ?_ (Aside0.out (by assumption))) | exact HB.out)))); have n1_ := sA (blk_below (sB BK101.out) hb); have n2_ := sA (blk_below (sB BK102.out) hb); have n3_ := sA (below_step (by repeat (first | (with_reducible first | exact HB.out | apply sLA | apply sLN | apply sLD | refine sLS ?_ (Aside0.out (by assumption))) | exact HB.out)) hb); clear BK101; clear BK102; clear HB; have HO107 := n0_; have BK101 := n1_; have BK102 := n2_; have HB := n3_; clear n0_ n1_ n2_ n3_; (try clear hb); (try clear hb2); (try clear hk); (try clear hi); (try clear ho0)) | ((with_reducible refine gate_dst (N := 8) rfl ?_); refine box_event ?hg (N := 8) ?hd (cs := #[.slice none 0 0]) (t := 29) ?hr ?_; (case hd => rfl); (case hg => rfl); (case hr => first | (go_simp; done) | (go_simp; rfl)); intro gb109 hg w25 hbox hb; have n0_ := sA (Kd.R_below (sR HO107.out) hb); have n1_ := sA (blk_below (sB BK101.out) hb); have n2_ := sA (blk_below (sB BK102.out) hb); have n3_ := sA (below_step (by repeat (first | (with_reducible first | exact HB.out | apply sLA | apply sLN | apply sLD | refine sLS ?_ (Aside0.out (by assumption))) | exact HB.out)) hb); have n4_ := sA (hbox); have n5_ := sA ((by rw [hg]; exact (below_size (by repeat (first | (with_reducible first | exact HB.out | apply sLA | apply sLN | apply sLD | refine sLS ?_ (Aside0.out (by assumption))) | exact HB.out))) : w.heap.size ≤ gb109)); have n6_ := sA ((by rw [hg]; exact (below_size (by repeat (first | (with_reducible first | exact HB.out | apply sLA | apply sLN | apply sLD | refine sLS ?_ (Aside0.out (by assumption))) | exact HB.out))) : w.heap.size ≤ gb109)); have n7_ := sA ((by rw [hg]; exact Nat.ne_of_lt (blk_lt (sB BK101.out)) : gb101 ≠ gb109)); have n8_ := sA ((by rw [hg]; exact Nat.ne_of_gt (blk_lt (sB BK101.out)) : gb109 ≠ gb101)); have n9_ := sA ((by rw [hg]; exact Nat.ne_of_lt (blk_lt (sB BK102.out)) : gb102 ≠ gb109)); have n10_ := sA ((by rw [hg]; exact Nat.ne_of_gt (blk_lt (sB BK102.out)) : gb109 ≠ gb102)); clear HO107; clear BK101; clear BK102; clear HB; have HO107 := n0_; have BK101 := n1_; have BK102 := n2_; have HB := n3_; have BK109 := n4_; have GW109 := n5_; have GE109 := n6_; have NB101_109 := n7_; have NB109_101 := n8_; have NB102_109 := n9_; have NB109_102 := n10_; clear n0_ n1_ n2_ n3_ n4_ n5_ n6_ n7_ n8_ n9_ n10_; clear hb hbox hg; obtain ⟨Ao26, co26, eo26⟩ := Kd.R_slice HO107.out; subst eo26; have hnb27 := NB109_101.out; have hnc27 := NB101_109.out; have hnb28 := NB109_102.out; have hnc28 := NB102_109.out; have hcz29_0 : w25.cell? ⟨gb109, 0, none⟩ = some (.slice none 0 0) := sC BK109 0 rfl; have hfz29_0 := blk_frozen BK109.out 0) | ((with_reducible refine gate_dst (N := 38) rfl ?_); refine Kd.R_lit (Kd.int .i64) _ 3 ?hg (N := 38) ?hd (xs := ([] : List Int)) (inner := []) (ok := fun _ => True) (okp := fun _ => True) ?hr ?hp (fun _ hk => hk) trivial (Below.refl _ _) (Nat.le_refl _) (by simp) ?_; (case hd => rfl); (case hg => rfl); (case hr => first | (go_simp; done) | (go_simp; rfl)); (case hp => exact (Reps.none _ _)); intro v111 w30 ho31 hb hg_ hnew_; clear hg_ hnew_; (first | rw [← Ny110.out] at ho31 | (simp only [Int.reduceToNat] at ho31; rw [← Ny110.out] at ho31)); have n0_ := sA (Kd.R_below (sR (Kd.R_mono (Kd.R_far (p := ⟨gb109, 0, none⟩) (Kd.R_types HO107.out BK109.out (by decide)) (fun _ hk => hk.2) (.slice Ao26 t105.length co26)) (fun _ h_ => h_.1))) hb); have n1_ := sA (Kd.R_lower ho31 (below_size (by repeat (first | (with_reducible first | exact HB.out | apply sLA | apply sLN | apply sLD | refine sLS ?_ (Aside0.out (by assumption))) | exact HB.out)))); have n2_ := sA (blk_below (g := gb101) (o := .cells #[.int .i64 a0_0, .slice A0_1 l0_1.length c0_1, .slice A0_2 l0_2.length c0_2] 31 (0, 0)) (by (with_reducible repeat first | apply blk_drewN | apply blk_drew | apply blk_alloc); refine blk_far ?_ NB101_109.out _; (with_reducible repeat first | apply blk_drewN | apply blk_drew | apply blk_alloc); exact BK101.out) hb); have n3_ := sA (blk_below (g := gb102) (o := .cells #[.int .i64 0, .slice none 0 0, .slice none 0 0] 31 (0, 0)) (by (with_reducible repeat first | apply blk_drewN | apply blk_drew | apply blk_alloc); refine blk_far ?_ NB102_109.out _; (with_reducible repeat first | apply blk_drewN | apply blk_drew | apply blk_alloc); exact BK102.out) hb); have n4_ := sA (blk_below (g := gb109) (o := .cells #[.slice Ao26 t105.length co26] 29 (0, 0)) (by (with_reducible repeat first | apply blk_drewN | apply blk_drew | apply blk_alloc); refine blk_put (cs := #[.slice none 0 0]) ?_ 0 _ rfl; (with_reducible repeat first | apply blk_drewN | apply blk_drew | apply blk_alloc); exact BK109.out) hb); have n5_ := sA (below_step (by repeat (first | (with_reducible first | exact HB.out | apply sLA | apply sLN | apply sLD | refine sLS ?_ (Aside0.out (by assumption))) | exact HB.out)) hb); clear HO107; clear BK101; clear BK102; clear BK109; clear HB; have HO107 := n0_; have HO112 := n1_; have BK101 := n2_; have BK102 := n3_; have BK109 := n4_; have HB := n5_; clear n0_ n1_ n2_ n3_ n4_ n5_; clear hb ho31) | ((with_reducible refine gate_dst (N := 39) rfl ?_); refine Kd.R_lit (Kd.int .i64) _ 3 ?hg (N := 39) ?hd (xs := ([] : List Int)) (inner := []) (ok := fun _ => True) (okp := fun _ => True) ?hr ?hp (fun _ hk => hk) trivial (Below.refl _ _) (Nat.le_refl _) (by simp) ?_; (case hd => rfl); (case hg => rfl); (case hr => first | (go_simp; done) | (go_simp; rfl)); (case hp => exact (Reps.none _ _)); intro v114 w32 ho33 hb hg_ hnew_; clear hg_ hnew_; (first | rw [← Ny113.out] at ho33 | (simp only [Int.reduceToNat] at ho33; rw [← Ny113.out] at ho33)); have n0_ := sA (Kd.R_below (sR HO107.out) hb); have n1_ := sA (Kd.R_elder' (sR HO112.out) (Kd.R_base ho33) hb); have n2_ := sA (Kd.R_lower (Kd.R_new' ho33 (Kd.R_lt (sR HO112.out))) (below_size (by repeat (first | (with_reducible first | exact HB.out | apply sLA | apply sLN | apply sLD | refine sLS ?_ (Aside0.out (by assumption))) | exact HB.out)))); have n3_ := sA (blk_below (sB BK101.out) hb); have n4_ := sA (blk_below (sB BK102.out) hb); have n5_ := sA (blk_below (sB BK109.out) hb); have n6_ := sA (below_step (by repeat (first | (with_reducible first | exact HB.out | apply sLA | apply sLN | apply sLD | refine sLS ?_ (Aside0.out (by assumption))) | exact HB.out)) hb); clear HO107; clear HO112; clear BK101; clear BK102; clear BK109; clear HB; have HO107 := n0_; have HO112 := n1_; have HO115 := n2_; have BK101 := n3_; have BK102 := n4_; have BK109 := n5_; have HB := n6_; clear n0_ n1_ n2_ n3_ n4_ n5_ n6_; clear hb ho33; have hcz34_0 : w32.cell? ⟨gb101, 0, none⟩ = some (.int .i64 a0_0) := sC BK101 0 rfl; have hcz34_1 : w32.cell? ⟨gb101, 1, none⟩ = some (.slice A0_1 l0_1.length c0_1) := sC BK101 1 rfl; have hcz34_2 : w32.cell? ⟨gb101, 2, none⟩ = some (.slice A0_2 l0_2.length c0_2) := sC BK101 2 rfl; have hfz34_0 := blk_frozen BK101.out 0; have hfz34_1 := blk_frozen BK101.out 1; have hfz34_2 := blk_frozen BK101.out 2))
     go_loopg [10, 42] kj2 (fun kq v10 v42 w' => ∃ (x10_2 : List Int) (x42_2 : Int), v42 = .int .i64 x42_2 ∧ Aside0 (impl_HearSpans.l0 kq x10_2 y113 a0_0 x42_2 a0_0 l0_1 l0_2 t105 = some (r1, r2, r3, r4, r5, r6)) ∧ Aside0 (kq ≤ kj2) ∧ Aside0 (Kd.R (Kd.int .i64) 3 w' w.heap.size (fun k_ => some k_ ≠ (v114 : Value).ownBlock) v10 x10_2) ∧ Aside0 (Kd.R (Kd.int .i64) 3 w' w.heap.size (fun k_ => some k_ ≠ (v10 : Value).ownBlock) v114 y113) ∧ Aside0 (Kd.R k59 59 w' w.heap.size (fun _ => True) (.slice Ao26 t105.length co26) t105) ∧ Aside0 (w'.heap[gb101]? = some (.cells #[.int .i64 a0_0, (.slice A0_1 l0_1.length c0_1), (.slice A0_2 l0_2.length c0_2)] 31 (0, 0))) ∧ Aside0 (w'.heap[gb102]? = some (.cells #[.int .i64 0, (.slice none 0 0), (.slice none 0 0)] 31 (0, 0))) ∧ Aside0 (w'.heap[gb109]? = some (.cells #[(.slice Ao26 t105.length co26)] 29 (0, 0))) ∧ Aside0 (Below w.heap.size w w'))
     case atStart => exact ⟨(y110), (0), (by first | rfl | (simp; done) | (simp [*]; done)), H', ⟨Nat.le_refl _⟩, ⟨sR (Kd.R_mono HO112.out (fun _ hk => hk.2))⟩, ⟨sR (Kd.R_mono HO115.out (fun _ hk => hk.2))⟩, ⟨sR HO107.out⟩, ⟨sB BK101.out⟩, ⟨sB BK102.out⟩, ⟨sB BK109.out⟩, ⟨by repeat (first | (with_reducible first | exact HB.out | apply sLA | apply sLN | apply sLD | refine sLS ?_ GE101.out | refine sLS ?_ GE102.out | refine sLS ?_ GE109.out) | exact HB.out)⟩⟩
     case round =>
      clear H'
      try clear c1
      try clear c2
      try clear p2
      try clear c3
      try clear c4
      try clear c7
      try clear c9
      try clear c14
      try clear c17
      try clear c18
      try clear c21
      try clear c22
      try clear c23
      try clear c27
      try clear c28
      try clear hcz10_0
      try clear hcz10_1
      try clear hcz10_2
      try clear hcz12_0
      try clear hcz12_1
      try clear hcz12_2
      try clear hcz15_0
      try clear hcz15_1
      try clear hcz15_2
      try clear hcz19_0
      try clear hcz19_1
      try clear hcz19_2
      try clear hcz23_0
      try clear hcz23_1
      try clear hcz23_2
      try clear hcz29_0
      try clear hcz34_0
      try clear hcz34_1
      try clear hcz34_2
      try clear hfz10_0
      try clear hfz10_1
      try clear hfz10_2
      try clear hfz12_0
      try clear hfz12_1
      try clear hfz12_2
      try clear hfz15_0
      try clear hfz15_1
      try clear hfz15_2
      try clear hfz19_0
      try clear hfz19_1
      try clear hfz19_2
      try clear hfz23_0
      try clear hfz23_1
      try clear hfz23_2
      try clear hfz29_0
      try clear hfz34_0
      try clear hfz34_1
      try clear hfz34_2
      try clear p2
      obtain ⟨x10_2, x42_2, rfl, HA, HK2, HO_10, HO_11, HO_110000, BK101, BK102, BK109, HB⟩ := hrel
      cases gk with
      | zero => exact absurd HA.out (by simp [impl_HearSpans.l0])
      | succ k2 =>
       have H := HA.out
       clear HA
       simp only [impl_HearSpans.l0] at H
       by_cases c35 : x42_2 < a0_0
       ·rw [if_pos c35] at H
        have c35b0 : decide (x42_2 < a0_0) = true := decide_eq_true c35
        clear c35
        replace H := Option.bind_eq_some_iff.mp H
        obtain ⟨t116, A360, H⟩ := H
        replace H : (if t116 = true then ((impl_has.f l0_1 x42_2).bind fun t117 => (if t117 = true then (impl_HearSpans.l0 k2 x10_2 y113 a0_0 (wrap64 (x42_2 + 1)) a0_0 l0_1 l0_2 t105) else (if x10_2.length < 17592186044416 then (impl_HearSpans.l0 k2 (x10_2 ++ [x42_2]) y113 a0_0 (wrap64 (x42_2 + 1)) a0_0 l0_1 l0_2 t105) else (none)))) else (impl_HearSpans.l0 k2 x10_2 y113 a0_0 (wrap64 (x42_2 + 1)) a0_0 l0_1 l0_2 t105)) = some (r1, r2, r3, r4, r5, r6) := H
        have A36 := sA A360
        clear A360
        by_cases c37 : t116 = true
        ·subst c37
         have H1 : ((impl_has.f l0_1 x42_2).bind fun t117 => (if t117 = true then (impl_HearSpans.l0 k2 x10_2 y113 a0_0 (wrap64 (x42_2 + 1)) a0_0 l0_1 l0_2 t105) else (if x10_2.length < 17592186044416 then (impl_HearSpans.l0 k2 (x10_2 ++ [x42_2]) y113 a0_0 (wrap64 (x42_2 + 1)) a0_0 l0_1 l0_2 t105) else (none)))) = some (r1, r2, r3, r4, r5, r6) := by rw [if_pos rfl] at H; exact H
         clear H
         have H := H1
         clear H1
         replace H := Option.bind_eq_some_iff.mp H
         obtain ⟨t117, A380, H⟩ := H
         replace H : (if t117 = true then (impl_HearSpans.l0 k2 x10_2 y113 a0_0 (wrap64 (x42_2 + 1)) a0_0 l0_1 l0_2 t105) else (if x10_2.length < 17592186044416 then (impl_HearSpans.l0 k2 (x10_2 ++ [x42_2]) y113 a0_0 (wrap64 (x42_2 + 1)) a0_0 l0_1 l0_2 t105) else (none))) = some (r1, r2, r3, r4, r5, r6) := H
         have A38 := sA A380
         clear A380
         by_cases c39 : t117 = true
         ·subst c39
          have H1 : (impl_HearSpans.l0 k2 x10_2 y113 a0_0 (wrap64 (x42_2 + 1)) a0_0 l0_1 l0_2 t105) = some (r1, r2, r3, r4, r5, r6) := by rw [if_pos rfl] at H; exact H
          clear H
          have H := H1
          clear H1
          have H' := sA H
          clear H
          have hnb40 := NB109_101.out
          have hnc40 := NB101_109.out
          have hnb41 := NB109_102.out
          have hnc41 := NB102_109.out
          have hcz42_0 : wr.cell? ⟨gb109, 0, none⟩ = some (.slice Ao26 t105.length co26) := sC BK109 0 rfl
          have hfz42_0 := blk_frozen BK109.out 0
          go_wp2_with (first | ((with_reducible refine gate_callee (f := 45) rfl ?_); refine goesL_ (some 47) rfl rfl Try.func45 (by kernel_rfl) rfl #[.slice Ao26 t105.length co26, .int .i64 x42_2] rfl (by (try simp only [List.map_toArray, List.map_cons, List.map_nil]); first | done | rfl | (simp only [List.length_drop, List.length_take]; rfl)) ?_; (with_reducible refine (impl_has.calls _ _ t105 x42_2 true _ ?side1 ?side2 A36.out).mono ?_); (case side1 => repeat (first | exact (Kd.R_reads' HO_110000.out).2.2 | (with_reducible refine Kd.C_alloc ?_ _) | (with_reducible refine Kd.C_drewN ?_ _) | (with_reducible refine Kd.C_drew ?_))); (case side2 => exact (Kd.R_reads' HO_110000.out).2.1); rintro e w43 ⟨rfl, hb⟩; refine ⟨_, rfl, ?_⟩; have n0_ := sA (Kd.R_below (sR HO_10.out) hb); have n1_ := sA (Kd.R_below (sR HO_11.out) hb); have n2_ := sA (Kd.R_below (sR HO_110000.out) hb); have n3_ := sA (blk_below (sB BK101.out) hb); have n4_ := sA (blk_below (sB BK102.out) hb); have n5_ := sA (blk_below (sB BK109.out) hb); have n6_ := sA (below_step (by repeat (first | (with_reducible first | exact HB.out | apply sLA | apply sLN | apply sLD | refine sLS ?_ (Aside0.out (by assumption))) | exact HB.out)) hb); clear HO_10; clear HO_11; clear HO_110000; clear BK101; clear BK102; clear BK109; clear HB; have HO_10 := n0_; have HO_11 := n1_; have HO_110000 := n2_; have BK101 := n3_; have BK102 := n4_; have BK109 := n5_; have HB := n6_; clear n0_ n1_ n2_ n3_ n4_ n5_ n6_; (try clear hb); (try clear hb2); (try clear hk); (try clear hi); have hnb44 := NB101_102.out; have hnc44 := NB102_101.out; have hcz45_0 : w43.cell? ⟨gb101, 0, none⟩ = some (.int .i64 a0_0) := sC BK101 0 rfl; have hcz45_1 : w43.cell? ⟨gb101, 1, none⟩ = some (.slice A0_1 l0_1.length c0_1) := sC BK101 1 rfl; have hcz45_2 : w43.cell? ⟨gb101, 2, none⟩ = some (.slice A0_2 l0_2.length c0_2) := sC BK101 2 rfl; have hfz45_0 := blk_frozen BK101.out 0; have hfz45_1 := blk_frozen BK101.out 1; have hfz45_2 := blk_frozen BK101.out 2) | (go_at_call 45; (with_reducible refine (impl_has.calls _ _ l0_1 x42_2 true _ ?side1 ?side2 A38.out).mono ?_); (case side1 => repeat (first | exact (Kd.C_below HR0_1.out HB.out) | (with_reducible refine Kd.C_alloc ?_ _) | (with_reducible refine Kd.C_drewN ?_ _) | (with_reducible refine Kd.C_drew ?_))); (case side2 => exact HC0_1.out); rintro e w46 ⟨rfl, hb⟩; have n0_ := sA (Kd.R_below (sR HO_10.out) hb); have n1_ := sA (Kd.R_below (sR HO_11.out) hb); have n2_ := sA (Kd.R_below (sR HO_110000.out) hb); have n3_ := sA (blk_below (sB BK101.out) hb); have n4_ := sA (blk_below (sB BK102.out) hb); have n5_ := sA (blk_below (sB BK109.out) hb); have n6_ := sA (below_step (by repeat (first | (with_reducible first | exact HB.out | apply sLA | apply sLN | apply sLD | refine sLS ?_ (Aside0.out (by assumption))) | exact HB.out)) hb); clear HO_10; clear HO_11; clear HO_110000; clear BK101; clear BK102; clear BK109; clear HB; have HO_10 := n0_; have HO_11 := n1_; have HO_110000 := n2_; have BK101 := n3_; have BK102 := n4_; have BK109 := n5_; have HB := n6_; clear n0_ n1_ n2_ n3_ n4_ n5_ n6_; (try clear hb); (try clear hb2); (try clear hk); (try clear hi)))
          go_roundg k2
          case measure => have := HJ2.out; have := HK2.out; omega
          case rel => exact ⟨(x10_2), (wrap64 (x42_2 + 1)), (by first | rfl | (simp; done) | (simp [*]; done)), H', ⟨by have := HJ2.out; have := HK2.out; omega⟩, ⟨sR HO_10.out⟩, ⟨sR HO_11.out⟩, ⟨sR HO_110000.out⟩, ⟨sB BK101.out⟩, ⟨sB BK102.out⟩, ⟨sB BK109.out⟩, ⟨by repeat (first | (with_reducible first | exact HB.out | apply sLA | apply sLN | apply sLD | refine sLS ?_ GE101.out | refine sLS ?_ GE102.out | refine sLS ?_ GE109.out) | exact HB.out)⟩⟩
         ·replace c39 := Bool.eq_false_iff.mpr c39
          subst c39
          have H1 : (if x10_2.length < 17592186044416 then (impl_HearSpans.l0 k2 (x10_2 ++ [x42_2]) y113 a0_0 (wrap64 (x42_2 + 1)) a0_0 l0_1 l0_2 t105) else (none)) = some (r1, r2, r3, r4, r5, r6) := by rw [if_neg (show ¬ (false = true) by decide)] at H; exact H
          clear H
          have H := H1
          clear H1
          by_cases c47 : x10_2.length < 17592186044416
          ·rw [if_pos c47] at H
           have LMc47 := sA c47
           clear c47
           obtain ⟨y118, hy118⟩ : ∃ y_ : List Int, y_ = (x10_2 ++ [x42_2]) := ⟨_, rfl⟩
           replace H : (impl_HearSpans.l0 k2 y118 y113 a0_0 (wrap64 (x42_2 + 1)) a0_0 l0_1 l0_2 t105) = some (r1, r2, r3, r4, r5, r6) := by first | (rw [hy118]; with_reducible exact H) | (have H2_ := (Option.bind_some _ _).symm.trans H; rw [hy118]; with_reducible exact H2_) | (have H2_ := (Option.bind_some _ _).symm.trans H; with_reducible exact H2_) | with_reducible exact H | (rw [hy118]; exact H) | exact H
           have Ny118 := sA hy118
           clear hy118
           have H' := sA H
           clear H
           have hnb48 := NB109_101.out
           have hnc48 := NB101_109.out
           have hnb49 := NB109_102.out
           have hnc49 := NB102_109.out
           have hcz50_0 : wr.cell? ⟨gb109, 0, none⟩ = some (.slice Ao26 t105.length co26) := sC BK109 0 rfl
           have hfz50_0 := blk_frozen BK109.out 0
           go_wp2_with (first | ((with_reducible refine gate_callee (f := 45) rfl ?_); refine goesL_ (some 47) rfl rfl Try.func45 (by kernel_rfl) rfl #[.slice Ao26 t105.length co26, .int .i64 x42_2] rfl (by (try simp only [List.map_toArray, List.map_cons, List.map_nil]); first | done | rfl | (simp only [List.length_drop, List.length_take]; rfl)) ?_; (with_reducible refine (impl_has.calls _ _ t105 x42_2 true _ ?side1 ?side2 A36.out).mono ?_); (case side1 => repeat (first | exact (Kd.R_reads' HO_110000.out).2.2 | (with_reducible refine Kd.C_alloc ?_ _) | (with_reducible refine Kd.C_drewN ?_ _) | (with_reducible refine Kd.C_drew ?_))); (case side2 => exact (Kd.R_reads' HO_110000.out).2.1); rintro e w51 ⟨rfl, hb⟩; refine ⟨_, rfl, ?_⟩; have n0_ := sA (Kd.R_below (sR HO_10.out) hb); have n1_ := sA (Kd.R_below (sR HO_11.out) hb); have n2_ := sA (Kd.R_below (sR HO_110000.out) hb); have n3_ := sA (blk_below (sB BK101.out) hb); have n4_ := sA (blk_below (sB BK102.out) hb); have n5_ := sA (blk_below (sB BK109.out) hb); have n6_ := sA (below_step (by repeat (first | (with_reducible first | exact HB.out | apply sLA | apply sLN | apply sLD | refine sLS ?_ (Aside0.out (by assumption))) | exact HB.out)) hb); clear HO_10; clear HO_11; clear HO_110000; clear BK101; clear BK102; clear BK109; clear HB; have HO_10 := n0_; have HO_11 := n1_; have HO_110000 := n2_; have BK101 := n3_; have BK102 := n4_; have BK109 := n5_; have HB := n6_; clear n0_ n1_ n2_ n3_ n4_ n5_ n6_; (try clear hb); (try clear hb2); (try clear hk); (try clear hi); have hnb52 := NB101_102.out; have hnc52 := NB102_101.out; have hcz53_0 : w51.cell? ⟨gb101, 0, none⟩ = some (.int .i64 a0_0) := sC BK101 0 rfl; have hcz53_1 : w51.cell? ⟨gb101, 1, none⟩ = some (.slice A0_1 l0_1.length c0_1) := sC BK101 1 rfl; have hcz53_2 : w51.cell? ⟨gb101, 2, none⟩ = some (.slice A0_2 l0_2.length c0_2) := sC BK101 2 rfl; have hfz53_0 := blk_frozen BK101.out 0; have hfz53_1 := blk_frozen BK101.out 1; have hfz53_2 := blk_frozen BK101.out 2) | (go_at_call 45; (with_reducible refine (impl_has.calls _ _ l0_1 x42_2 false _ ?side1 ?side2 A38.out).mono ?_); (case side1 => repeat (first | exact (Kd.C_below HR0_1.out HB.out) | (with_reducible refine Kd.C_alloc ?_ _) | (with_reducible refine Kd.C_drewN ?_ _) | (with_reducible refine Kd.C_drew ?_))); (case side2 => exact HC0_1.out); rintro e w54 ⟨rfl, hb⟩; have n0_ := sA (Kd.R_below (sR HO_10.out) hb); have n1_ := sA (Kd.R_below (sR HO_11.out) hb); have n2_ := sA (Kd.R_below (sR HO_110000.out) hb); have n3_ := sA (blk_below (sB BK101.out) hb); have n4_ := sA (blk_below (sB BK102.out) hb); have n5_ := sA (blk_below (sB BK109.out) hb); have n6_ := sA (below_step (by repeat (first | (with_reducible first | exact HB.out | apply sLA | apply sLN | apply sLD | refine sLS ?_ (Aside0.out (by assumption))) | exact HB.out)) hb); clear HO_10; clear HO_11; clear HO_110000; clear BK101; clear BK102; clear BK109; clear HB; have HO_10 := n0_; have HO_11 := n1_; have HO_110000 := n2_; have BK101 := n3_; have BK102 := n4_; have BK109 := n5_; have HB := n6_; clear n0_ n1_ n2_ n3_ n4_ n5_ n6_; (try clear hb); (try clear hb2); (try clear hk); (try clear hi)) | ((with_reducible refine gate_builtin (b := .append) (xs := #[.tmp 55, .tmp 57]) rfl ?_); at_builtin; refine Kd.R_append (Kd.int .i64) (w0 := w) w.heap.size rfl (.tmp 55) (.tmp 57) 23 3 (.int .i64 0) 8 rfl Try.underlying23 info3 rfl (by decide) (by omega) u10 x10_2 x42_2 [.int .i64 x42_2] (fun k_ => some k_ ≠ (v114 : Value).ownBlock) (fun _ => False) rfl rfl ?aP (fun _ hk => hk.elim) ?aF ?aO ?aB ?aS ?aL ?_; (case aP => exact rfl); (case aB => exact (by repeat (first | (with_reducible first | exact HB.out | apply sLA | apply sLN | apply sLD | refine sLS ?_ (Aside0.out (by assumption))) | exact HB.out))); (case aF => exact (fun k_ hk => Kd.fresh' (Kd.R_lt (sR HO_11.out)) k_ hk)); (case aO => exact (sR HO_10.out)); (case aS => exact (below_size (by repeat (first | (with_reducible first | exact HB.out | apply sLA | apply sLN | apply sLD | refine sLS ?_ (Aside0.out (by assumption))) | exact HB.out)))); (case aL => have := LMc47.out; omega); intro v119 w55 ho hb hg hat; rw [← Ny118.out] at ho; have n0_ := sA (Kd.R_after (ok := (fun _ => True)) (sR (Kd.R_mono HO_11.out (fun _ hk => ⟨trivial, hk⟩))) hg hat); have n1_ := sA (Kd.R_over' (sR HO_110000.out) (Kd.R_typed (sR HO_10.out)) (by decide) hg); have n2_ := sA (blk_grown (g := gb101) (o := .cells #[.int .i64 a0_0, .slice A0_1 l0_1.length c0_1, .slice A0_2 l0_2.length c0_2] 31 (0, 0)) (sB BK101.out) hg (Kd.R_ne HO_10.out BK101.out (by decide))); have n3_ := sA (blk_grown (g := gb102) (o := .cells #[.int .i64 0, .slice none 0 0, .slice none 0 0] 31 (0, 0)) (sB BK102.out) hg (Kd.R_ne HO_10.out BK102.out (by decide))); have n4_ := sA (blk_grown (g := gb109) (o := .cells #[.slice Ao26 t105.length co26] 29 (0, 0)) (sB BK109.out) hg (Kd.R_ne HO_10.out BK109.out (by decide))); have n5_ := sA (hb); have n6_ := sA (ho); clear HO_11; clear HO_110000; clear BK101; clear BK102; clear BK109; clear HB; clear HO_10; have HO_11 := n0_; have HO_110000 := n1_; have BK101 := n2_; have BK102 := n3_; have BK109 := n4_; have HB := n5_; have HO120 := n6_; clear n0_ n1_ n2_ n3_ n4_ n5_ n6_; clear ho hb hg hat))
           go_roundg k2
           case measure => have := HJ2.out; have := HK2.out; omega
           case rel => exact ⟨(y118), (wrap64 (x42_2 + 1)), (by first | rfl | (simp; done) | (simp [*]; done)), H', ⟨by have := HJ2.out; have := HK2.out; omega⟩, ⟨sR HO120.out⟩, ⟨sR (Kd.R_mono HO_11.out (fun _ hk => hk.2))⟩, ⟨sR HO_110000.out⟩, ⟨sB BK101.out⟩, ⟨sB BK102.out⟩, ⟨sB BK109.out⟩, ⟨by repeat (first | (with_reducible first | exact HB.out | apply sLA | apply sLN | apply sLD | refine sLS ?_ GE101.out | refine sLS ?_ GE102.out | refine sLS ?_ GE109.out) | exact HB.out)⟩⟩
          ·rw [if_neg c47] at H
           exact absurd H (by simp)
        ·replace c37 := Bool.eq_false_iff.mpr c37
         subst c37
         have H1 : (impl_HearSpans.l0 k2 x10_2 y113 a0_0 (wrap64 (x42_2 + 1)) a0_0 l0_1 l0_2 t105) = some (r1, r2, r3, r4, r5, r6) := by rw [if_neg (show ¬ (false = true) by decide)] at H; exact H
         clear H
         have H := H1
         clear H1
         have H' := sA H
         clear H
         have hnb56 := NB109_101.out
         have hnc56 := NB101_109.out
         have hnb57 := NB109_102.out
         have hnc57 := NB102_109.out
         have hcz58_0 : wr.cell? ⟨gb109, 0, none⟩ = some (.slice Ao26 t105.length co26) := sC BK109 0 rfl
         have hfz58_0 := blk_frozen BK109.out 0
         go_wp2_with (first | ((with_reducible refine gate_callee (f := 45) rfl ?_); refine goesL_ (some 47) rfl rfl Try.func45 (by kernel_rfl) rfl #[.slice Ao26 t105.length co26, .int .i64 x42_2] rfl (by (try simp only [List.map_toArray, List.map_cons, List.map_nil]); first | done | rfl | (simp only [List.length_drop, List.length_take]; rfl)) ?_; (with_reducible refine (impl_has.calls _ _ t105 x42_2 false _ ?side1 ?side2 A36.out).mono ?_); (case side1 => repeat (first | exact (Kd.R_reads' HO_110000.out).2.2 | (with_reducible refine Kd.C_alloc ?_ _) | (with_reducible refine Kd.C_drewN ?_ _) | (with_reducible refine Kd.C_drew ?_))); (case side2 => exact (Kd.R_reads' HO_110000.out).2.1); rintro e w59 ⟨rfl, hb⟩; refine ⟨_, rfl, ?_⟩; have n0_ := sA (Kd.R_below (sR HO_10.out) hb); have n1_ := sA (Kd.R_below (sR HO_11.out) hb); have n2_ := sA (Kd.R_below (sR HO_110000.out) hb); have n3_ := sA (blk_below (sB BK101.out) hb); have n4_ := sA (blk_below (sB BK102.out) hb); have n5_ := sA (blk_below (sB BK109.out) hb); have n6_ := sA (below_step (by repeat (first | (with_reducible first | exact HB.out | apply sLA | apply sLN | apply sLD | refine sLS ?_ (Aside0.out (by assumption))) | exact HB.out)) hb); clear HO_10; clear HO_11; clear HO_110000; clear BK101; clear BK102; clear BK109; clear HB; have HO_10 := n0_; have HO_11 := n1_; have HO_110000 := n2_; have BK101 := n3_; have BK102 := n4_; have BK109 := n5_; have HB := n6_; clear n0_ n1_ n2_ n3_ n4_ n5_ n6_; (try clear hb); (try clear hb2); (try clear hk); (try clear hi)))
         go_roundg k2
         case measure => have := HJ2.out; have := HK2.out; omega
         case rel => exact ⟨(x10_2), (wrap64 (x42_2 + 1)), (by first | rfl | (simp; done) | (simp [*]; done)), H', ⟨by have := HJ2.out; have := HK2.out; omega⟩, ⟨sR HO_10.out⟩, ⟨sR HO_11.out⟩, ⟨sR HO_110000.out⟩, ⟨sB BK101.out⟩, ⟨sB BK102.out⟩, ⟨sB BK109.out⟩, ⟨by repeat (first | (with_reducible first | exact HB.out | apply sLA | apply sLN | apply sLD | refine sLS ?_ GE101.out | refine sLS ?_ GE102.out | refine sLS ?_ GE109.out) | exact HB.out)⟩⟩
       ·rw [if_neg c35] at H
        have c35b0 : decide (x42_2 < a0_0) = false := decide_eq_false c35
        clear c35
        replace H := Option.bind_eq_some_iff.mp H
        obtain ⟨t121, A600, H⟩ := H
        replace H : ((slices_DeleteFunc_int_int.f t121 t105).bind fun t124 => (if (t105.length : Int) > 0 then (if 0 ≤ (wrap64 ((t105.length : Int) - 1)) then (if (wrap64 ((t105.length : Int) - 1)) < (t105.length : Int) then ((impl_Span_82.f k2 a0_0 t105 t124).bind fun t129 => (impl_HearSpans.l1 k2 x10_2 y113 (wrap64 (((rd_T59 t105 (wrap64 ((t105.length : Int) - 1))).f1) - 1)) t129 (t129.length : Int) 0 a0_0 t105 t124)) else (none)) else (none)) else (if t124.length + y113.length < 17592186044416 then ((slices_Sort_int_int.f (t124 ++ y113)).bind fun t143 => (some (a0_0, t105, t143, x10_2, y113, true))) else (none)))) = some (r1, r2, r3, r4, r5, r6) := H
        have A60 := sA A600
        clear A600
        replace H := Option.bind_eq_some_iff.mp H
        obtain ⟨t124, A610, H⟩ := H
        replace H : (if (t105.length : Int) > 0 then (if 0 ≤ (wrap64 ((t105.length : Int) - 1)) then (if (wrap64 ((t105.length : Int) - 1)) < (t105.length : Int) then ((impl_Span_82.f k2 a0_0 t105 t124).bind fun t129 => (impl_HearSpans.l1 k2 x10_2 y113 (wrap64 (((rd_T59 t105 (wrap64 ((t105.length : Int) - 1))).f1) - 1)) t129 (t129.length : Int) 0 a0_0 t105 t124)) else (none)) else (none)) else (if t124.length + y113.length < 17592186044416 then ((slices_Sort_int_int.f (t124 ++ y113)).bind fun t143 => (some (a0_0, t105, t143, x10_2, y113, true))) else (none))) = some (r1, r2, r3, r4, r5, r6) := H
        have A61 := sA A610
        clear A610
        by_cases c62 : (t105.length : Int) > 0
        ·rw [if_pos c62] at H
         have c62b0 : decide (0 < (t105.length : Int)) = true := decide_eq_true c62
         have c62b1 : decide (0 < t105.length) = true := decide_eq_true (by omega)
         clear c62
         obtain ⟨ji63, hji63⟩ : ∃ j_ : Int, (wrap64 ((t105.length : Int) - 1)) = j_ := ⟨_, rfl⟩
         replace H : (if 0 ≤ (ji63) then (if (ji63) < (t105.length : Int) then ((impl_Span_82.f k2 a0_0 t105 t124).bind fun t129 => (impl_HearSpans.l1 k2 x10_2 y113 (wrap64 (((rd_T59 t105 (ji63)).f1) - 1)) t129 (t129.length : Int) 0 a0_0 t105 t124)) else (none)) else (none)) = some (r1, r2, r3, r4, r5, r6) := by first | (rw [hji63] at H; exact H) | (simp only [hji63] at H ⊢; exact H)
         (try rw [hji63] at A60)
         (try rw [hji63] at A61)
         have hji63w : (IntKind.i64.wrap ((t105.length : Int) - 1)) = ji63 := (i64_w _).trans hji63
         by_cases c64 : 0 ≤ (ji63)
         ·rw [if_pos c64] at H
          have c64b0 : decide (0 ≤ (ji63)) = true := decide_eq_true c64
          clear c64
          by_cases c65 : (ji63) < (t105.length : Int)
          ·rw [if_pos c65] at H
           have c65b0 : decide ((ji63) < (t105.length : Int)) = true := decide_eq_true c65
           clear c65
           replace H := Option.bind_eq_some_iff.mp H
           obtain ⟨t129, A660, H⟩ := H
           replace H : (impl_HearSpans.l1 k2 x10_2 y113 (wrap64 (((rd_T59 t105 (ji63)).f1) - 1)) t129 (t129.length : Int) 0 a0_0 t105 t124) = some (r1, r2, r3, r4, r5, r6) := H
           have A66 := sA A660
           clear A660
           have H' := sA H
           clear H
           try go_wp2
           have n0_ := sA (Kd.R_drew HO_10.out)
           have n1_ := sA (Kd.R_drew HO_11.out)
           have n2_ := sA (Kd.R_drew HO_110000.out)
           have n3_ := sA (blk_drew BK101.out)
           have n4_ := sA (blk_drew BK102.out)
           have n5_ := sA (blk_drew BK109.out)
           have n6_ := sA (below_drew1 HB.out)
           clear HO_10
           clear HO_11
           clear HO_110000
           clear BK101
           clear BK102
           clear BK109
           clear HB
           have HO_10 := n0_
           have HO_11 := n1_
           have HO_110000 := n2_
           have BK101 := n3_
           have BK102 := n4_
           have BK109 := n5_
           have HB := n6_
           clear n0_ n1_ n2_ n3_ n4_ n5_ n6_
           refine start_ (n := 11) (S := fun w' => w'.cell? ⟨gb101, 0, none⟩ = some (.int .i64 a0_0) ∧ w'.cell? ⟨gb101, 1, none⟩ = some (.slice A0_1 l0_1.length c0_1) ∧ w'.cell? ⟨gb101, 2, none⟩ = some (.slice A0_2 l0_2.length c0_2) ∧ w'.cell? ⟨gb109, 0, none⟩ = some (.slice Ao26 t105.length co26)) (ds := []) (sM 11 0) (by kernel_rfl) rfl rfl ⟨sC BK101 0 rfl, sC BK101 1 rfl, sC BK101 2 rfl, sC BK109 0 rfl⟩ (fun hHeld => ?_); refine with_tabW impl_HearSpans.tab13 impl_HearSpans.bits13 (fun HT_ HW_ => ?_)
           generalize wr.drew = w67 at HO_10 HO_11 HO_110000 BK101 BK102 BK109 HB hHeld ⊢
           refine pure_ (i := 0) (N := some 60) (v := ?_) (a' := ?_) (sM 11 1) rfl rfl (any_of HT_.out (by kernel_rfl)) (fun _ _ _ h => h) (Or.inl ⟨by rfl, ?_⟩) ?_ ?_
           rotate_left
           ·intro w'
            go_simp
            with_reducible rfl
           rotate_left
           ·simp only [Act.put, sI, sZ, sV, i64_w, i32_w]
            rfl
           refine pure_ (i := 3) (N := some 63) (v := ?_) (a' := ?_) (sM 11 9) rfl rfl (any_of HT_.out (by kernel_rfl)) (fun _ _ _ h => h) (Or.inl ⟨by rfl, ?_⟩) ?_ ?_
           rotate_left
           ·intro w'
            go_simp
            with_reducible rfl
           rotate_left
           ·simp only [Act.put, sI, sZ, sV, i64_w, i32_w]
            rfl
           refine pure_ (i := 6) (N := some 66) (v := ?_) (a' := ?_) (sM 11 73) rfl rfl (any_of HT_.out (by kernel_rfl)) (fun _ _ _ h => h) (Or.inl ⟨by rfl, ?_⟩) ?_ ?_
           rotate_left
           ·intro w'
            go_simp
            with_reducible rfl
           rotate_left
           ·simp only [Act.put, sI, sZ, sV, i64_w, i32_w]
            rfl
           refine take_ (i := 1) (N := some 61) (v := ?_) (a' := ?_) (sM 11 75) rfl rfl (take_ofW HT_.out HW_.out (by kernel_rfl)) (fun _ _ _ h => h) (Or.inl ⟨by rfl, ?_⟩) hHeld ?_ ?_
           rotate_left
           ·rintro w' ⟨s0, s1, s2, s3⟩
            go_simp
            with_reducible rfl
           rotate_left
           ·simp only [Act.put, sI, sZ, sV, i64_w, i32_w]
            rfl
           refine take_ (i := 2) (N := some 62) (v := ?_) (a' := ?_) (sM 11 79) rfl rfl (take_ofW HT_.out HW_.out (by kernel_rfl)) (fun _ _ _ h => h) (Or.inl ⟨by rfl, ?_⟩) hHeld ?_ ?_
           rotate_left
           ·rintro w' ⟨s0, s1, s2, s3⟩
            go_simp
            with_reducible rfl
           rotate_left
           ·simp only [Act.put, sI, sZ, sV, i64_w, i32_w]
            rfl
           refine take_ (i := 4) (N := some 64) (v := ?_) (a' := ?_) (sM 11 95) rfl rfl (take_ofW HT_.out HW_.out (by kernel_rfl)) (fun _ _ _ h => h) (Or.inl ⟨by rfl, ?_⟩) hHeld ?_ ?_
           rotate_left
           ·rintro w' ⟨s0, s1, s2, s3⟩
            go_simp
            with_reducible rfl
           rotate_left
           ·simp only [Act.put, sI, sZ, sV, i64_w, i32_w]
            rfl
           refine join_ (σ := Value × Value × Nat) 1 (sM 11 1023) (fun s_ => [(65, s_.1), (67, s_.2.1), (13, .pointer (some ⟨s_.2.2, 0, none⟩)), (68, .agg #[.int .i64 a0_0, .slice Ao26 t105.length co26, s_.2.1])]) (fun s_ w' => (w'.cell? ⟨gb101, 0, none⟩ = some (.int .i64 a0_0) ∧ w'.cell? ⟨gb101, 1, none⟩ = some (.slice A0_1 l0_1.length c0_1) ∧ w'.cell? ⟨gb101, 2, none⟩ = some (.slice A0_2 l0_2.length c0_2) ∧ w'.cell? ⟨gb109, 0, none⟩ = some (.slice Ao26 t105.length co26)) ∧ (Kd.R (Kd.int .i64) 3 w' w.heap.size (fun k_ => some k_ ≠ (u10 : Value).ownBlock ∧ some k_ ≠ (v114 : Value).ownBlock) s_.2.1 t124) ∧ (Kd.R (Kd.int .i64) 3 w' w.heap.size (fun k_ => some k_ ≠ (s_.2.1 : Value).ownBlock ∧ some k_ ≠ (v114 : Value).ownBlock) u10 x10_2) ∧ (Kd.R (Kd.int .i64) 3 w' w.heap.size (fun k_ => some k_ ≠ (s_.2.1 : Value).ownBlock ∧ some k_ ≠ (u10 : Value).ownBlock) v114 y113) ∧ (Kd.R k59 59 w' w.heap.size (fun _ => True) (.slice Ao26 t105.length co26) t105) ∧ (w'.heap[gb101]? = some (.cells #[.int .i64 a0_0, .slice A0_1 l0_1.length c0_1, .slice A0_2 l0_2.length c0_2] 31 (0, 0))) ∧ (w'.heap[gb102]? = some (.cells #[.int .i64 0, .slice none 0 0, .slice none 0 0] 31 (0, 0))) ∧ (w'.heap[gb109]? = some (.cells #[.slice Ao26 t105.length co26] 29 (0, 0))) ∧ (w'.heap[s_.2.2]? = some (.cells #[.int .i64 0, .slice none 0 0, .slice none 0 0] 31 (0, 0))) ∧ (w.heap.size ≤ s_.2.2) ∧ (w.heap.size ≤ s_.2.2) ∧ (gb101 ≠ s_.2.2) ∧ (s_.2.2 ≠ gb101) ∧ (gb102 ≠ s_.2.2) ∧ (s_.2.2 ≠ gb102) ∧ (gb109 ≠ s_.2.2) ∧ (s_.2.2 ≠ gb109) ∧ (Below w.heap.size w w')) ?_ ?_
           rotate_left
           ·intro hCont
            refine two_ (i := 5) (j := 9) (Ni := some 65) (Nj := some 13) (sM 11 127) (sM 11 607) rfl rfl rfl rfl (two_of HT_.out (by kernel_rfl)) (by decide) (by decide) (fun K hK => ?_) (fun K hK => ?_)
            ·skip
             refine goes_ Try.func39 (by kernel_rfl) rfl #[.slice A0_2 l0_2.length c0_2] (by rfl) rfl rfl (by (try simp only [List.map_toArray, List.map_cons, List.map_nil]); first | done | rfl | (simp only [List.length_drop, List.length_take]; rfl)) ?_
             with_reducible refine (slices_Clone_int_int.calls _ _ l0_2 t121 _ ?side1 ?side2 A60.out).mono ?_
             (case side1 => repeat (first | exact (Kd.C_below HR0_2.out HB.out) | (with_reducible refine Kd.C_alloc ?_ _) | (with_reducible refine Kd.C_drewN ?_ _) | (with_reducible refine Kd.C_drew ?_)))
             (case side2 => exact HC0_2.out)
             rintro e w68 ⟨v122, rfl, ho0, hb⟩
             refine ⟨_, rfl, ?_⟩
             have n0_ := sA (Kd.R_elder' (sR HO_10.out) (Kd.R_base ho0) hb)
             have n1_ := sA (Kd.R_elder' (sR HO_11.out) (Kd.R_base ho0) hb)
             have n2_ := sA (Kd.R_below (sR HO_110000.out) hb)
             have n3_ := sA (Kd.R_lower (Kd.R_new' (Kd.R_new' ho0 (Kd.R_lt (sR HO_10.out))) (Kd.R_lt (sR HO_11.out))) (below_size (by repeat (first | (with_reducible first | exact HB.out | apply sLA | apply sLN | apply sLD | refine sLS ?_ (Aside0.out (by assumption))) | exact HB.out))))
             have n4_ := sA (blk_below (sB BK101.out) hb)
             have n5_ := sA (blk_below (sB BK102.out) hb)
             have n6_ := sA (blk_below (sB BK109.out) hb)
             have n7_ := sA (below_step (by repeat (first | (with_reducible first | exact HB.out | apply sLA | apply sLN | apply sLD | refine sLS ?_ (Aside0.out (by assumption))) | exact HB.out)) hb)
             clear HO_10
             clear HO_11
             clear HO_110000
             clear BK101
             clear BK102
             clear BK109
             clear HB
             have HO_10 := n0_
             have HO_11 := n1_
             have HO_110000 := n2_
             have HO123 := n3_
             have BK101 := n4_
             have BK102 := n5_
             have BK109 := n6_
             have HB := n7_
             clear n0_ n1_ n2_ n3_ n4_ n5_ n6_ n7_
             (try clear hb)
             (try clear hb2)
             (try clear hk)
             (try clear hi)
             (try clear ho0)
             obtain ⟨Ao69, co69, eo69⟩ := Kd.R_slice HO123.out
             (first | subst eo69 | (injection eo69 with f1_ f2_ f3_; have f4_ := f1_.symm; have f5_ := f3_.symm; clear f1_ f2_ f3_; subst f4_; subst f5_))
             refine hK.out _ _ ⟨sC BK101 0 rfl, sC BK101 1 rfl, sC BK101 2 rfl, sC BK109 0 rfl⟩ (fun hHeld => ?_)
             clear hK K
             refine norm_ (a' := ?_) ?_ ?_
             rotate_left
             ·show Act.put _ (some 65) _ = _
              simp only [Act.put, sI, sZ, sV, i64_w, i32_w]
              rfl
             refine two_ (i := 7) (j := 9) (Ni := some 67) (Nj := some 13) (sM 11 255) (sM 11 639) rfl rfl rfl rfl (two_of HT_.out (by kernel_rfl)) (by decide) (by decide) (fun K hK => ?_) (fun K hK => ?_)
             ·skip
              refine goes_ Try.func46 (by kernel_rfl) rfl #[.slice Ao69 t121.length co69, .func (.func 47) #[] #[.pointer (some ⟨gb109, 0, none⟩)]] (by rfl) rfl rfl (by (try simp only [List.map_toArray, List.map_cons, List.map_nil]); first | done | rfl | (simp only [List.length_drop, List.length_take]; rfl)) ?_
              with_reducible refine (slices_DeleteFunc_int_int.calls (fun k_ => some k_ = (.slice Ao69 t121.length co69 : Value).ownBlock) (.slice Ao69 t121.length co69) t121 Ao26 co26 t105 t124 w _ ?side1 ?side2 ?side3 ?side4 A61.out (B := gb109) ?sideI).mono ?_
              (case sideI => exact fun W_ hkp => (blk_cell (blk_kept (sB BK109.out) hkp (fun hs_ => (fun e_ => (Kd.R_ne HO123.out BK109.out (by decide)) e_) hs_)) 0).trans rfl)
              (case side1 => repeat (first | (with_reducible first | exact HB.out | apply sLA | apply sLN | apply sLD | refine sLS ?_ GE101.out | refine sLS ?_ GE102.out | refine sLS ?_ GE109.out) | exact HB.out))
              (case side2 => exact Kd.R_tight rfl HO123.out)
              (case side3 => exact Kd.C_kept_own ((Kd.R_apart' HO_110000.out (Kd.R_typed HO123.out) (by decide))) (fun k_ hk_ hs_ => (hk_.2) hs_))
              (case side4 => exact (Kd.R_reads' HO_110000.out).2.1)
              rintro e w70 ⟨v125, rfl, ho0, hb, hkp⟩
              refine ⟨_, rfl, ?_⟩
              have n0_ := sA (Kd.R_mono (ok' := fun k_ => some k_ ≠ (v114 : Value).ownBlock ∧ some k_ ≠ (v125 : Value).ownBlock) (Kd.R_keptB (HO_10.out) hkp (fun k_ hk_ hs_ => (hk_.2) hs_)) (fun k_ hk_ => ⟨hk_.1.1, fun e_ => Or.elim (ho0.1 k_ e_.symm) (fun hs_ => hk_.2.1 hs_) (fun hn_ => Nat.not_le.2 hk_.2.2 hn_)⟩))
              have n1_ := sA (Kd.R_mono (ok' := fun k_ => some k_ ≠ (u10 : Value).ownBlock ∧ some k_ ≠ (v125 : Value).ownBlock) (Kd.R_keptB (HO_11.out) hkp (fun k_ hk_ hs_ => (hk_.2) hs_)) (fun k_ hk_ => ⟨hk_.1.1, fun e_ => Or.elim (ho0.1 k_ e_.symm) (fun hs_ => hk_.2.1 hs_) (fun hn_ => Nat.not_le.2 hk_.2.2 hn_)⟩))
              have n2_ := sA (Kd.R_mono (ok' := fun k_ => True) (Kd.R_keptB ((Kd.R_apart' HO_110000.out (Kd.R_typed HO123.out) (by decide))) hkp (fun k_ hk_ hs_ => (hk_.2) hs_)) (fun k_ hk_ => trivial))
              have n3_ := sA (blk_kept (sB BK101.out) hkp (fun hs_ => (fun e_ => (Kd.R_ne HO123.out BK101.out (by decide)) e_) hs_))
              have n4_ := sA (blk_kept (sB BK102.out) hkp (fun hs_ => (fun e_ => (Kd.R_ne HO123.out BK102.out (by decide)) e_) hs_))
              have n5_ := sA (blk_kept (sB BK109.out) hkp (fun hs_ => (fun e_ => (Kd.R_ne HO123.out BK109.out (by decide)) e_) hs_))
              have n6_ := sA (Kd.R_mono (ok' := fun k_ => some k_ ≠ (u10 : Value).ownBlock ∧ some k_ ≠ (v114 : Value).ownBlock) ho0 (fun k_ hk_ => ⟨Or.elim hk_ (fun hs_ => fun e_ => (((HO_10.out).1 k_ e_.symm).2) hs_) (fun hn_ => (Kd.fresh' (Kd.R_lt (sR HO_10.out)) k_ hn_)), Or.elim hk_ (fun hs_ => fun e_ => (((HO_11.out).1 k_ e_.symm).2) hs_) (fun hn_ => (Kd.fresh' (Kd.R_lt (sR HO_11.out)) k_ hn_))⟩))
              have n7_ := sA (hb)
              clear HO_10
              clear HO_11
              clear HO_110000
              clear BK101
              clear BK102
              clear BK109
              clear HB
              clear HO123
              have HO_10 := n0_
              have HO_11 := n1_
              have HO_110000 := n2_
              have BK101 := n3_
              have BK102 := n4_
              have BK109 := n5_
              have HO126 := n6_
              have HB := n7_
              clear n0_ n1_ n2_ n3_ n4_ n5_ n6_ n7_
              (try clear hb)
              (try clear hkp)
              (try clear ho0)
              obtain ⟨Ao71, co71, eo71⟩ := Kd.R_slice HO126.out
              (first | subst eo71 | (injection eo71 with f1_ f2_ f3_; have f4_ := f1_.symm; have f5_ := f3_.symm; clear f1_ f2_ f3_; subst f4_; subst f5_))
              refine hK.out _ _ ⟨sC BK101 0 rfl, sC BK101 1 rfl, sC BK101 2 rfl, sC BK109 0 rfl⟩ (fun hHeld => ?_)
              clear hK K
              refine norm_ (a' := ?_) ?_ ?_
              rotate_left
              ·show Act.put _ (some 67) _ = _
               simp only [Act.put, sI, sZ, sV, i64_w, i32_w]
               rfl
              refine pure_ (i := 8) (N := some 68) (v := ?_) (a' := ?_) (sM 11 511) rfl rfl (any_of HT_.out (by kernel_rfl)) (fun _ _ _ h => h) (Or.inl ⟨by rfl, ?_⟩) ?_ ?_
              rotate_left
              ·intro w'
               go_simp
               with_reducible rfl
              rotate_left
              ·simp only [Act.put, sI, sZ, sV, i64_w, i32_w]
               rfl
              refine one_ (i := 9) (N := some 13) (sM 11 1023) rfl rfl (one_of HT_.out (by kernel_rfl)) (by decide) (fun K hK => ?_)
              refine box_step ?hg (N := 13) ?hd (cs := #[.int .i64 0, .slice none 0 0, .slice none 0 0]) (t := 31) ?hr ?_; (case hd => rfl); (case hg => rfl); (case hr => first | (go_simp; done) | (go_simp; rfl))
              intro gb127 hg w72 hbox hb
              have n0_ := sA (Kd.R_below (sR HO_10.out) hb)
              have n1_ := sA (Kd.R_below (sR HO_11.out) hb)
              have n2_ := sA (Kd.R_below (sR HO_110000.out) hb)
              have n3_ := sA (Kd.R_below (sR HO126.out) hb)
              have n4_ := sA (blk_below (sB BK101.out) hb)
              have n5_ := sA (blk_below (sB BK102.out) hb)
              have n6_ := sA (blk_below (sB BK109.out) hb)
              have n7_ := sA (below_step (by repeat (first | (with_reducible first | exact HB.out | apply sLA | apply sLN | apply sLD | refine sLS ?_ (Aside0.out (by assumption))) | exact HB.out)) hb)
              have n8_ := sA (hbox)
              have n9_ := sA ((by rw [hg]; exact (below_size (by repeat (first | (with_reducible first | exact HB.out | apply sLA | apply sLN | apply sLD | refine sLS ?_ (Aside0.out (by assumption))) | exact HB.out))) : w.heap.size ≤ gb127))
              have n10_ := sA ((by rw [hg]; exact (below_size (by repeat (first | (with_reducible first | exact HB.out | apply sLA | apply sLN | apply sLD | refine sLS ?_ (Aside0.out (by assumption))) | exact HB.out))) : w.heap.size ≤ gb127))
              have n11_ := sA ((by rw [hg]; exact Nat.ne_of_lt (blk_lt (sB BK101.out)) : gb101 ≠ gb127))
              have n12_ := sA ((by rw [hg]; exact Nat.ne_of_gt (blk_lt (sB BK101.out)) : gb127 ≠ gb101))
              have n13_ := sA ((by rw [hg]; exact Nat.ne_of_lt (blk_lt (sB BK102.out)) : gb102 ≠ gb127))
              have n14_ := sA ((by rw [hg]; exact Nat.ne_of_gt (blk_lt (sB BK102.out)) : gb127 ≠ gb102))
              have n15_ := sA ((by rw [hg]; exact Nat.ne_of_lt (blk_lt (sB BK109.out)) : gb109 ≠ gb127))
              have n16_ := sA ((by rw [hg]; exact Nat.ne_of_gt (blk_lt (sB BK109.out)) : gb127 ≠ gb109))
              clear HO_10
              clear HO_11
              clear HO_110000
              clear HO126
              clear BK101
              clear BK102
              clear BK109
              clear HB
              have HO_10 := n0_
              have HO_11 := n1_
              have HO_110000 := n2_
              have HO126 := n3_
              have BK101 := n4_
              have BK102 := n5_
              have BK109 := n6_
              have HB := n7_
              have BK127 := n8_
              have GW127 := n9_
              have GE127 := n10_
              have NB101_127 := n11_
              have NB127_101 := n12_
              have NB102_127 := n13_
              have NB127_102 := n14_
              have NB109_127 := n15_
              have NB127_109 := n16_
              clear n0_ n1_ n2_ n3_ n4_ n5_ n6_ n7_ n8_ n9_ n10_ n11_ n12_ n13_ n14_ n15_ n16_
              clear hb hbox hg
              refine hK.out _ _ ⟨sC BK101 0 rfl, sC BK101 1 rfl, sC BK101 2 rfl, sC BK109 0 rfl⟩ (fun hHeld => ?_)
              clear hK K
              refine norm_ (a' := ?_) ?_ ?_
              rotate_left
              ·show Act.put _ (some 13) _ = _
               simp only [Act.put, sI, sZ, sV, i64_w, i32_w]
               rfl
              exact norm_ (by simp only [putAll, Act.put, sI, sZ, sV]) (hCont (.slice Ao69 t121.length co69, .slice Ao71 t124.length co71, gb127) _ ⟨hHeld, (sR HO126.out), (sR (Kd.R_mono HO_10.out (fun _ hk => ⟨hk.2, hk.1⟩))), (sR (Kd.R_mono HO_11.out (fun _ hk => ⟨hk.2, hk.1⟩))), (sR HO_110000.out), (sB BK101.out), (sB BK102.out), (sB BK109.out), (sB BK127.out), GW127.out, GE127.out, NB101_127.out, NB127_101.out, NB102_127.out, NB127_102.out, NB109_127.out, NB127_109.out, (by repeat (first | (with_reducible first | exact HB.out | apply sLA | apply sLN | apply sLD | refine sLS ?_ (Aside0.out (by assumption))) | exact HB.out))⟩)
             ·skip
              refine box_step ?hg (N := 13) ?hd (cs := #[.int .i64 0, .slice none 0 0, .slice none 0 0]) (t := 31) ?hr ?_; (case hd => rfl); (case hg => rfl); (case hr => first | (go_simp; done) | (go_simp; rfl))
              intro gb127 hg w69 hbox hb
              have n0_ := sA (Kd.R_below (sR HO_10.out) hb)
              have n1_ := sA (Kd.R_below (sR HO_11.out) hb)
              have n2_ := sA (Kd.R_below (sR HO_110000.out) hb)
              have n3_ := sA (Kd.R_below (sR HO123.out) hb)
              have n4_ := sA (blk_below (sB BK101.out) hb)
              have n5_ := sA (blk_below (sB BK102.out) hb)
              have n6_ := sA (blk_below (sB BK109.out) hb)
              have n7_ := sA (below_step (by repeat (first | (with_reducible first | exact HB.out | apply sLA | apply sLN | apply sLD | refine sLS ?_ (Aside0.out (by assumption))) | exact HB.out)) hb)
              have n8_ := sA (hbox)
              have n9_ := sA ((by rw [hg]; exact (below_size (by repeat (first | (with_reducible first | exact HB.out | apply sLA | apply sLN | apply sLD | refine sLS ?_ (Aside0.out (by assumption))) | exact HB.out))) : w.heap.size ≤ gb127))
              have n10_ := sA ((by rw [hg]; exact (below_size (by repeat (first | (with_reducible first | exact HB.out | apply sLA | apply sLN | apply sLD | refine sLS ?_ (Aside0.out (by assumption))) | exact HB.out))) : w.heap.size ≤ gb127))
              have n11_ := sA ((by rw [hg]; exact Nat.ne_of_lt (blk_lt (sB BK101.out)) : gb101 ≠ gb127))
              have n12_ := sA ((by rw [hg]; exact Nat.ne_of_gt (blk_lt (sB BK101.out)) : gb127 ≠ gb101))
              have n13_ := sA ((by rw [hg]; exact Nat.ne_of_lt (blk_lt (sB BK102.out)) : gb102 ≠ gb127))
              have n14_ := sA ((by rw [hg]; exact Nat.ne_of_gt (blk_lt (sB BK102.out)) : gb127 ≠ gb102))
              have n15_ := sA ((by rw [hg]; exact Nat.ne_of_lt (blk_lt (sB BK109.out)) : gb109 ≠ gb127))
              have n16_ := sA ((by rw [hg]; exact Nat.ne_of_gt (blk_lt (sB BK109.out)) : gb127 ≠ gb109))
              clear HO_10
              clear HO_11
              clear HO_110000
              clear HO123
              clear BK101
              clear BK102
              clear BK109
              clear HB
              have HO_10 := n0_
              have HO_11 := n1_
              have HO_110000 := n2_
              have HO123 := n3_
              have BK101 := n4_
              have BK102 := n5_
              have BK109 := n6_
              have HB := n7_
              have BK127 := n8_
              have GW127 := n9_
              have GE127 := n10_
              have NB101_127 := n11_
              have NB127_101 := n12_
              have NB102_127 := n13_
              have NB127_102 := n14_
              have NB109_127 := n15_
              have NB127_109 := n16_
              clear n0_ n1_ n2_ n3_ n4_ n5_ n6_ n7_ n8_ n9_ n10_ n11_ n12_ n13_ n14_ n15_ n16_
              clear hb hbox hg
              obtain ⟨Ao70, co70, eo70⟩ := Kd.R_slice HO123.out
              (first | subst eo70 | (injection eo70 with f1_ f2_ f3_; have f4_ := f1_.symm; have f5_ := f3_.symm; clear f1_ f2_ f3_; subst f4_; subst f5_))
              refine hK.out _ _ ⟨sC BK101 0 rfl, sC BK101 1 rfl, sC BK101 2 rfl, sC BK109 0 rfl⟩ (fun hHeld => ?_)
              clear hK K
              refine norm_ (a' := ?_) ?_ ?_
              rotate_left
              ·show Act.put _ (some 13) _ = _
               simp only [Act.put, sI, sZ, sV, i64_w, i32_w]
               rfl
              refine one_ (i := 7) (N := some 67) (sM 11 767) rfl rfl (one_of HT_.out (by kernel_rfl)) (by decide) (fun K hK => ?_)
              refine goes_ Try.func46 (by kernel_rfl) rfl #[.slice Ao70 t121.length co70, .func (.func 47) #[] #[.pointer (some ⟨gb109, 0, none⟩)]] (by rfl) rfl rfl (by (try simp only [List.map_toArray, List.map_cons, List.map_nil]); first | done | rfl | (simp only [List.length_drop, List.length_take]; rfl)) ?_
              with_reducible refine (slices_DeleteFunc_int_int.calls (fun k_ => some k_ = (.slice Ao70 t121.length co70 : Value).ownBlock) (.slice Ao70 t121.length co70) t121 Ao26 co26 t105 t124 w _ ?side1 ?side2 ?side3 ?side4 A61.out (B := gb109) ?sideI).mono ?_
              (case sideI => exact fun W_ hkp => (blk_cell (blk_kept (sB BK109.out) hkp (fun hs_ => (fun e_ => (Kd.R_ne HO123.out BK109.out (by decide)) e_) hs_)) 0).trans rfl)
              (case side1 => repeat (first | (with_reducible first | exact HB.out | apply sLA | apply sLN | apply sLD | refine sLS ?_ GE101.out | refine sLS ?_ GE102.out | refine sLS ?_ GE109.out | refine sLS ?_ GE127.out) | exact HB.out))
              (case side2 => exact Kd.R_tight rfl HO123.out)
              (case side3 => exact Kd.C_kept_own ((Kd.R_apart' HO_110000.out (Kd.R_typed HO123.out) (by decide))) (fun k_ hk_ hs_ => (hk_.2) hs_))
              (case side4 => exact (Kd.R_reads' HO_110000.out).2.1)
              rintro e w71 ⟨v125, rfl, ho0, hb, hkp⟩
              refine ⟨_, rfl, ?_⟩
              have n0_ := sA (Kd.R_mono (ok' := fun k_ => some k_ ≠ (v114 : Value).ownBlock ∧ some k_ ≠ (v125 : Value).ownBlock) (Kd.R_keptB (HO_10.out) hkp (fun k_ hk_ hs_ => (hk_.2) hs_)) (fun k_ hk_ => ⟨hk_.1.1, fun e_ => Or.elim (ho0.1 k_ e_.symm) (fun hs_ => hk_.2.1 hs_) (fun hn_ => Nat.not_le.2 hk_.2.2 hn_)⟩))
              have n1_ := sA (Kd.R_mono (ok' := fun k_ => some k_ ≠ (u10 : Value).ownBlock ∧ some k_ ≠ (v125 : Value).ownBlock) (Kd.R_keptB (HO_11.out) hkp (fun k_ hk_ hs_ => (hk_.2) hs_)) (fun k_ hk_ => ⟨hk_.1.1, fun e_ => Or.elim (ho0.1 k_ e_.symm) (fun hs_ => hk_.2.1 hs_) (fun hn_ => Nat.not_le.2 hk_.2.2 hn_)⟩))
              have n2_ := sA (Kd.R_mono (ok' := fun k_ => True) (Kd.R_keptB ((Kd.R_apart' HO_110000.out (Kd.R_typed HO123.out) (by decide))) hkp (fun k_ hk_ hs_ => (hk_.2) hs_)) (fun k_ hk_ => trivial))
              have n3_ := sA (blk_kept (sB BK101.out) hkp (fun hs_ => (fun e_ => (Kd.R_ne HO123.out BK101.out (by decide)) e_) hs_))
              have n4_ := sA (blk_kept (sB BK102.out) hkp (fun hs_ => (fun e_ => (Kd.R_ne HO123.out BK102.out (by decide)) e_) hs_))
              have n5_ := sA (blk_kept (sB BK109.out) hkp (fun hs_ => (fun e_ => (Kd.R_ne HO123.out BK109.out (by decide)) e_) hs_))
              have n6_ := sA (blk_kept (sB BK127.out) hkp (fun hs_ => (fun e_ => (Kd.R_ne HO123.out BK127.out (by decide)) e_) hs_))
              have n7_ := sA (Kd.R_mono (ok' := fun k_ => some k_ ≠ (u10 : Value).ownBlock ∧ some k_ ≠ (v114 : Value).ownBlock) ho0 (fun k_ hk_ => ⟨Or.elim hk_ (fun hs_ => fun e_ => (((HO_10.out).1 k_ e_.symm).2) hs_) (fun hn_ => (Kd.fresh' (Kd.R_lt (sR HO_10.out)) k_ hn_)), Or.elim hk_ (fun hs_ => fun e_ => (((HO_11.out).1 k_ e_.symm).2) hs_) (fun hn_ => (Kd.fresh' (Kd.R_lt (sR HO_11.out)) k_ hn_))⟩))
              have n8_ := sA (hb)
              clear HO_10
              clear HO_11
              clear HO_110000
              clear BK101
              clear BK102
              clear BK109
              clear BK127
              clear HB
              clear HO123
              have HO_10 := n0_
              have HO_11 := n1_
              have HO_110000 := n2_
              have BK101 := n3_
              have BK102 := n4_
              have BK109 := n5_
              have BK127 := n6_
              have HO126 := n7_
              have HB := n8_
              clear n0_ n1_ n2_ n3_ n4_ n5_ n6_ n7_ n8_
              (try clear hb)
              (try clear hkp)
              (try clear ho0)
              obtain ⟨Ao72, co72, eo72⟩ := Kd.R_slice HO126.out
              (first | subst eo72 | (injection eo72 with f1_ f2_ f3_; have f4_ := f1_.symm; have f5_ := f3_.symm; clear f1_ f2_ f3_; subst f4_; subst f5_))
              refine hK.out _ _ ⟨sC BK101 0 rfl, sC BK101 1 rfl, sC BK101 2 rfl, sC BK109 0 rfl⟩ (fun hHeld => ?_)
              clear hK K
              refine norm_ (a' := ?_) ?_ ?_
              rotate_left
              ·show Act.put _ (some 67) _ = _
               simp only [Act.put, sI, sZ, sV, i64_w, i32_w]
               rfl
              refine pure_ (i := 8) (N := some 68) (v := ?_) (a' := ?_) (sM 11 1023) rfl rfl (any_of HT_.out (by kernel_rfl)) (fun _ _ _ h => h) (Or.inl ⟨by rfl, ?_⟩) ?_ ?_
              rotate_left
              ·intro w'
               go_simp
               with_reducible rfl
              rotate_left
              ·simp only [Act.put, sI, sZ, sV, i64_w, i32_w]
               rfl
              exact norm_ (by simp only [putAll, Act.put, sI, sZ, sV]) (hCont (.slice Ao70 t121.length co70, .slice Ao72 t124.length co72, gb127) _ ⟨hHeld, (sR HO126.out), (sR (Kd.R_mono HO_10.out (fun _ hk => ⟨hk.2, hk.1⟩))), (sR (Kd.R_mono HO_11.out (fun _ hk => ⟨hk.2, hk.1⟩))), (sR HO_110000.out), (sB BK101.out), (sB BK102.out), (sB BK109.out), (sB BK127.out), GW127.out, GE127.out, NB101_127.out, NB127_101.out, NB102_127.out, NB127_102.out, NB109_127.out, NB127_109.out, (by repeat (first | (with_reducible first | exact HB.out | apply sLA | apply sLN | apply sLD | refine sLS ?_ (Aside0.out (by assumption))) | exact HB.out))⟩)
            ·skip
             refine box_step ?hg (N := 13) ?hd (cs := #[.int .i64 0, .slice none 0 0, .slice none 0 0]) (t := 31) ?hr ?_; (case hd => rfl); (case hg => rfl); (case hr => first | (go_simp; done) | (go_simp; rfl))
             intro gb127 hg w68 hbox hb
             have n0_ := sA (Kd.R_below (sR HO_10.out) hb)
             have n1_ := sA (Kd.R_below (sR HO_11.out) hb)
             have n2_ := sA (Kd.R_below (sR HO_110000.out) hb)
             have n3_ := sA (blk_below (sB BK101.out) hb)
             have n4_ := sA (blk_below (sB BK102.out) hb)
             have n5_ := sA (blk_below (sB BK109.out) hb)
             have n6_ := sA (below_step (by repeat (first | (with_reducible first | exact HB.out | apply sLA | apply sLN | apply sLD | refine sLS ?_ (Aside0.out (by assumption))) | exact HB.out)) hb)
             have n7_ := sA (hbox)
             have n8_ := sA ((by rw [hg]; exact (below_size (by repeat (first | (with_reducible first | exact HB.out | apply sLA | apply sLN | apply sLD | refine sLS ?_ (Aside0.out (by assumption))) | exact HB.out))) : w.heap.size ≤ gb127))
             have n9_ := sA ((by rw [hg]; exact (below_size (by repeat (first | (with_reducible first | exact HB.out | apply sLA | apply sLN | apply sLD | refine sLS ?_ (Aside0.out (by assumption))) | exact HB.out))) : w.heap.size ≤ gb127))
             have n10_ := sA ((by rw [hg]; exact Nat.ne_of_lt (blk_lt (sB BK101.out)) : gb101 ≠ gb127))
             have n11_ := sA ((by rw [hg]; exact Nat.ne_of_gt (blk_lt (sB BK101.out)) : gb127 ≠ gb101))
             have n12_ := sA ((by rw [hg]; exact Nat.ne_of_lt (blk_lt (sB BK102.out)) : gb102 ≠ gb127))
             have n13_ := sA ((by rw [hg]; exact Nat.ne_of_gt (blk_lt (sB BK102.out)) : gb127 ≠ gb102))
             have n14_ := sA ((by rw [hg]; exact Nat.ne_of_lt (blk_lt (sB BK109.out)) : gb109 ≠ gb127))
             have n15_ := sA ((by rw [hg]; exact Nat.ne_of_gt (blk_lt (sB BK109.out)) : gb127 ≠ gb109))
             clear HO_10
             clear HO_11
             clear HO_110000
             clear BK101
             clear BK102
             clear BK109
             clear HB
             have HO_10 := n0_
             have HO_11 := n1_
             have HO_110000 := n2_
             have BK101 := n3_
             have BK102 := n4_
             have BK109 := n5_
             have HB := n6_
             have BK127 := n7_
             have GW127 := n8_
             have GE127 := n9_
             have NB101_127 := n10_
             have NB127_101 := n11_
             have NB102_127 := n12_
             have NB127_102 := n13_
             have NB109_127 := n14_
             have NB127_109 := n15_
             clear n0_ n1_ n2_ n3_ n4_ n5_ n6_ n7_ n8_ n9_ n10_ n11_ n12_ n13_ n14_ n15_
             clear hb hbox hg
             refine hK.out _ _ ⟨sC BK101 0 rfl, sC BK101 1 rfl, sC BK101 2 rfl, sC BK109 0 rfl⟩ (fun hHeld => ?_)
             clear hK K
             refine norm_ (a' := ?_) ?_ ?_
             rotate_left
             ·show Act.put _ (some 13) _ = _
              simp only [Act.put, sI, sZ, sV, i64_w, i32_w]
              rfl
             refine one_ (i := 5) (N := some 65) (sM 11 639) rfl rfl (one_of HT_.out (by kernel_rfl)) (by decide) (fun K hK => ?_)
             refine goes_ Try.func39 (by kernel_rfl) rfl #[.slice A0_2 l0_2.length c0_2] (by rfl) rfl rfl (by (try simp only [List.map_toArray, List.map_cons, List.map_nil]); first | done | rfl | (simp only [List.length_drop, List.length_take]; rfl)) ?_
             with_reducible refine (slices_Clone_int_int.calls _ _ l0_2 t121 _ ?side1 ?side2 A60.out).mono ?_
             (case side1 => repeat (first | exact (Kd.C_below HR0_2.out HB.out) | (with_reducible refine Kd.C_alloc ?_ _) | (with_reducible refine Kd.C_drewN ?_ _) | (with_reducible refine Kd.C_drew ?_)))
             (case side2 => exact HC0_2.out)
             rintro e w69 ⟨v122, rfl, ho0, hb⟩
             refine ⟨_, rfl, ?_⟩
             have n0_ := sA (Kd.R_elder' (sR HO_10.out) (Kd.R_base ho0) hb)
             have n1_ := sA (Kd.R_elder' (sR HO_11.out) (Kd.R_base ho0) hb)
             have n2_ := sA (Kd.R_below (sR HO_110000.out) hb)
             have n3_ := sA (Kd.R_lower (Kd.R_new' (Kd.R_new' ho0 (Kd.R_lt (sR HO_10.out))) (Kd.R_lt (sR HO_11.out))) (below_size (by repeat (first | (with_reducible first | exact HB.out | apply sLA | apply sLN | apply sLD | refine sLS ?_ (Aside0.out (by assumption))) | exact HB.out))))
             have n4_ := sA (blk_below (sB BK101.out) hb)
             have n5_ := sA (blk_below (sB BK102.out) hb)
             have n6_ := sA (blk_below (sB BK109.out) hb)
             have n7_ := sA (blk_below (sB BK127.out) hb)
             have n8_ := sA (below_step (by repeat (first | (with_reducible first | exact HB.out | apply sLA | apply sLN | apply sLD | refine sLS ?_ (Aside0.out (by assumption))) | exact HB.out)) hb)
             clear HO_10
             clear HO_11
             clear HO_110000
             clear BK101
             clear BK102
             clear BK109
             clear BK127
             clear HB
             have HO_10 := n0_
             have HO_11 := n1_
             have HO_110000 := n2_
             have HO123 := n3_
             have BK101 := n4_
             have BK102 := n5_
             have BK109 := n6_
             have BK127 := n7_
             have HB := n8_
             clear n0_ n1_ n2_ n3_ n4_ n5_ n6_ n7_ n8_
             (try clear hb)
             (try clear hb2)
             (try clear hk)
             (try clear hi)
             (try clear ho0)
             obtain ⟨Ao70, co70, eo70⟩ := Kd.R_slice HO123.out
             (first | subst eo70 | (injection eo70 with f1_ f2_ f3_; have f4_ := f1_.symm; have f5_ := f3_.symm; clear f1_ f2_ f3_; subst f4_; subst f5_))
             refine hK.out _ _ ⟨sC BK101 0 rfl, sC BK101 1 rfl, sC BK101 2 rfl, sC BK109 0 rfl⟩ (fun hHeld => ?_)
             clear hK K
             refine norm_ (a' := ?_) ?_ ?_
             rotate_left
             ·show Act.put _ (some 65) _ = _
              simp only [Act.put, sI, sZ, sV, i64_w, i32_w]
              rfl
             refine one_ (i := 7) (N := some 67) (sM 11 767) rfl rfl (one_of HT_.out (by kernel_rfl)) (by decide) (fun K hK => ?_)
             refine goes_ Try.func46 (by kernel_rfl) rfl #[.slice Ao70 t121.length co70, .func (.func 47) #[] #[.pointer (some ⟨gb109, 0, none⟩)]] (by rfl) rfl rfl (by (try simp only [List.map_toArray, List.map_cons, List.map_nil]); first | done | rfl | (simp only [List.length_drop, List.length_take]; rfl)) ?_
             with_reducible refine (slices_DeleteFunc_int_int.calls (fun k_ => some k_ = (.slice Ao70 t121.length co70 : Value).ownBlock) (.slice Ao70 t121.length co70) t121 Ao26 co26 t105 t124 w _ ?side1 ?side2 ?side3 ?side4 A61.out (B := gb109) ?sideI).mono ?_
             (case sideI => exact fun W_ hkp => (blk_cell (blk_kept (sB BK109.out) hkp (fun hs_ => (fun e_ => (Kd.R_ne HO123.out BK109.out (by decide)) e_) hs_)) 0).trans rfl)
             (case side1 => repeat (first | (with_reducible first | exact HB.out | apply sLA | apply sLN | apply sLD | refine sLS ?_ GE101.out | refine sLS ?_ GE102.out | refine sLS ?_ GE109.out | refine sLS ?_ GE127.out) | exact HB.out))
             (case side2 => exact Kd.R_tight rfl HO123.out)
             (case side3 => exact Kd.C_kept_own ((Kd.R_apart' HO_110000.out (Kd.R_typed HO123.out) (by decide))) (fun k_ hk_ hs_ => (hk_.2) hs_))
             (case side4 => exact (Kd.R_reads' HO_110000.out).2.1)
             rintro e w71 ⟨v125, rfl, ho0, hb, hkp⟩
             refine ⟨_, rfl, ?_⟩
             have n0_ := sA (Kd.R_mono (ok' := fun k_ => some k_ ≠ (v114 : Value).ownBlock ∧ some k_ ≠ (v125 : Value).ownBlock) (Kd.R_keptB (HO_10.out) hkp (fun k_ hk_ hs_ => (hk_.2) hs_)) (fun k_ hk_ => ⟨hk_.1.1, fun e_ => Or.elim (ho0.1 k_ e_.symm) (fun hs_ => hk_.2.1 hs_) (fun hn_ => Nat.not_le.2 hk_.2.2 hn_)⟩))
             have n1_ := sA (Kd.R_mono (ok' := fun k_ => some k_ ≠ (u10 : Value).ownBlock ∧ some k_ ≠ (v125 : Value).ownBlock) (Kd.R_keptB (HO_11.out) hkp (fun k_ hk_ hs_ => (hk_.2) hs_)) (fun k_ hk_ => ⟨hk_.1.1, fun e_ => Or.elim (ho0.1 k_ e_.symm) (fun hs_ => hk_.2.1 hs_) (fun hn_ => Nat.not_le.2 hk_.2.2 hn_)⟩))
             have n2_ := sA (Kd.R_mono (ok' := fun k_ => True) (Kd.R_keptB ((Kd.R_apart' HO_110000.out (Kd.R_typed HO123.out) (by decide))) hkp (fun k_ hk_ hs_ => (hk_.2) hs_)) (fun k_ hk_ => trivial))
             have n3_ := sA (blk_kept (sB BK101.out) hkp (fun hs_ => (fun e_ => (Kd.R_ne HO123.out BK101.out (by decide)) e_) hs_))
             have n4_ := sA (blk_kept (sB BK102.out) hkp (fun hs_ => (fun e_ => (Kd.R_ne HO123.out BK102.out (by decide)) e_) hs_))
             have n5_ := sA (blk_kept (sB BK109.out) hkp (fun hs_ => (fun e_ => (Kd.R_ne HO123.out BK109.out (by decide)) e_) hs_))
             have n6_ := sA (blk_kept (sB BK127.out) hkp (fun hs_ => (fun e_ => (Kd.R_ne HO123.out BK127.out (by decide)) e_) hs_))
             have n7_ := sA (Kd.R_mono (ok' := fun k_ => some k_ ≠ (u10 : Value).ownBlock ∧ some k_ ≠ (v114 : Value).ownBlock) ho0 (fun k_ hk_ => ⟨Or.elim hk_ (fun hs_ => fun e_ => (((HO_10.out).1 k_ e_.symm).2) hs_) (fun hn_ => (Kd.fresh' (Kd.R_lt (sR HO_10.out)) k_ hn_)), Or.elim hk_ (fun hs_ => fun e_ => (((HO_11.out).1 k_ e_.symm).2) hs_) (fun hn_ => (Kd.fresh' (Kd.R_lt (sR HO_11.out)) k_ hn_))⟩))
             have n8_ := sA (hb)
             clear HO_10
             clear HO_11
             clear HO_110000
             clear BK101
             clear BK102
             clear BK109
             clear BK127
             clear HB
             clear HO123
             have HO_10 := n0_
             have HO_11 := n1_
             have HO_110000 := n2_
             have BK101 := n3_
             have BK102 := n4_
             have BK109 := n5_
             have BK127 := n6_
             have HO126 := n7_
             have HB := n8_
             clear n0_ n1_ n2_ n3_ n4_ n5_ n6_ n7_ n8_
             (try clear hb)
             (try clear hkp)
             (try clear ho0)
             obtain ⟨Ao72, co72, eo72⟩ := Kd.R_slice HO126.out
             (first | subst eo72 | (injection eo72 with f1_ f2_ f3_; have f4_ := f1_.symm; have f5_ := f3_.symm; clear f1_ f2_ f3_; subst f4_; subst f5_))
             refine hK.out _ _ ⟨sC BK101 0 rfl, sC BK101 1 rfl, sC BK101 2 rfl, sC BK109 0 rfl⟩ (fun hHeld => ?_)
             clear hK K
             refine norm_ (a' := ?_) ?_ ?_
             rotate_left
             ·show Act.put _ (some 67) _ = _
              simp only [Act.put, sI, sZ, sV, i64_w, i32_w]
              rfl
             refine pure_ (i := 8) (N := some 68) (v := ?_) (a' := ?_) (sM 11 1023) rfl rfl (any_of HT_.out (by kernel_rfl)) (fun _ _ _ h => h) (Or.inl ⟨by rfl, ?_⟩) ?_ ?_
             rotate_left
             ·intro w'
              go_simp
              with_reducible rfl
             rotate_left
             ·simp only [Act.put, sI, sZ, sV, i64_w, i32_w]
              rfl
             exact norm_ (by simp only [putAll, Act.put, sI, sZ, sV]) (hCont (.slice Ao70 t121.length co70, .slice Ao72 t124.length co72, gb127) _ ⟨hHeld, (sR HO126.out), (sR (Kd.R_mono HO_10.out (fun _ hk => ⟨hk.2, hk.1⟩))), (sR (Kd.R_mono HO_11.out (fun _ hk => ⟨hk.2, hk.1⟩))), (sR HO_110000.out), (sB BK101.out), (sB BK102.out), (sB BK109.out), (sB BK127.out), GW127.out, GE127.out, NB101_127.out, NB127_101.out, NB102_127.out, NB127_102.out, NB109_127.out, NB127_109.out, (by repeat (first | (with_reducible first | exact HB.out | apply sLA | apply sLN | apply sLD | refine sLS ?_ (Aside0.out (by assumption))) | exact HB.out))⟩)
           rintro ⟨v122, v125, gb127⟩ w73 ⟨hS_, h0_, h1_, h2_, h3_, h4_, h5_, h6_, h7_, h8_, h9_, h10_, h11_, h12_, h13_, h14_, h15_, h16_⟩
           have n0_ : Aside0 (Kd.R (Kd.int .i64) 3 w73 w.heap.size (fun k_ => some k_ ≠ (u10 : Value).ownBlock ∧ some k_ ≠ (v114 : Value).ownBlock) v125 t124) := ⟨h0_⟩
           have n1_ : Aside0 (Kd.R (Kd.int .i64) 3 w73 w.heap.size (fun k_ => some k_ ≠ (v125 : Value).ownBlock ∧ some k_ ≠ (v114 : Value).ownBlock) u10 x10_2) := ⟨h1_⟩
           have n2_ : Aside0 (Kd.R (Kd.int .i64) 3 w73 w.heap.size (fun k_ => some k_ ≠ (v125 : Value).ownBlock ∧ some k_ ≠ (u10 : Value).ownBlock) v114 y113) := ⟨h2_⟩
           have n3_ : Aside0 (Kd.R k59 59 w73 w.heap.size (fun _ => True) (.slice Ao26 t105.length co26) t105) := ⟨h3_⟩
           have n4_ : Aside0 (w73.heap[gb101]? = some (.cells #[.int .i64 a0_0, .slice A0_1 l0_1.length c0_1, .slice A0_2 l0_2.length c0_2] 31 (0, 0))) := ⟨h4_⟩
           have n5_ : Aside0 (w73.heap[gb102]? = some (.cells #[.int .i64 0, .slice none 0 0, .slice none 0 0] 31 (0, 0))) := ⟨h5_⟩
           have n6_ : Aside0 (w73.heap[gb109]? = some (.cells #[.slice Ao26 t105.length co26] 29 (0, 0))) := ⟨h6_⟩
           have n7_ : Aside0 (w73.heap[gb127]? = some (.cells #[.int .i64 0, .slice none 0 0, .slice none 0 0] 31 (0, 0))) := ⟨h7_⟩
           have n8_ : Aside0 (w.heap.size ≤ gb127) := ⟨h8_⟩
           have n9_ : Aside0 (w.heap.size ≤ gb127) := ⟨h9_⟩
           have n10_ : Aside0 (gb101 ≠ gb127) := ⟨h10_⟩
           have n11_ : Aside0 (gb127 ≠ gb101) := ⟨h11_⟩
           have n12_ : Aside0 (gb102 ≠ gb127) := ⟨h12_⟩
           have n13_ : Aside0 (gb127 ≠ gb102) := ⟨h13_⟩
           have n14_ : Aside0 (gb109 ≠ gb127) := ⟨h14_⟩
           have n15_ : Aside0 (gb127 ≠ gb109) := ⟨h15_⟩
           have n16_ : Aside0 (Below w.heap.size w w73) := ⟨h16_⟩
           clear HO_10
           clear HO_11
           clear HO_110000
           clear BK101
           clear BK102
           clear BK109
           clear HB
           clear h0_ h1_ h2_ h3_ h4_ h5_ h6_ h7_ h8_ h9_ h10_ h11_ h12_ h13_ h14_ h15_ h16_
           have HO126 := n0_
           have HO_10 := n1_
           have HO_11 := n2_
           have HO_110000 := n3_
           have BK101 := n4_
           have BK102 := n5_
           have BK109 := n6_
           have BK127 := n7_
           have GW127 := n8_
           have GE127 := n9_
           have NB101_127 := n10_
           have NB127_101 := n11_
           have NB102_127 := n12_
           have NB127_102 := n13_
           have NB109_127 := n14_
           have NB127_109 := n15_
           have HB := n16_
           clear n0_ n1_ n2_ n3_ n4_ n5_ n6_ n7_ n8_ n9_ n10_ n11_ n12_ n13_ n14_ n15_ n16_
           have hHeld : w73.cell? ⟨gb101, 0, none⟩ = some (.int .i64 a0_0) ∧ w73.cell? ⟨gb101, 1, none⟩ = some (.slice A0_1 l0_1.length c0_1) ∧ w73.cell? ⟨gb101, 2, none⟩ = some (.slice A0_2 l0_2.length c0_2) ∧ w73.cell? ⟨gb109, 0, none⟩ = some (.slice Ao26 t105.length co26) := hS_
           obtain ⟨Ao74, co74, eo74⟩ := Kd.R_slice HO126.out
           (first | subst eo74 | (injection eo74 with f1_ f2_ f3_; have f4_ := f1_.symm; have f5_ := f3_.symm; clear f1_ f2_ f3_; subst f4_; subst f5_))
           refine norm_ (a' := ?_) ?_ ?_
           rotate_left
           ·simp only [putAll, Act.put, sI, sZ, sV]
            rfl
           refine one_ (i := 10) (N := none) (sM 11 2047) rfl rfl (one_of HT_.out (by kernel_rfl)) (by decide) (fun K hK => ?_)
           have hs75 : w73.cell? ⟨gb127, 0, none⟩ = some (.int .i64 0) := sC BK127 0 rfl
           have hfs75 := blk_frozen BK127.out 0
           have hns75_0 := NB101_127.out
           have hns75_1 := NB102_127.out
           have hns75_2 := NB109_127.out
           have hms75_0 := NB127_101.out
           have hms75_1 := NB127_102.out
           have hms75_2 := NB127_109.out
           have hs76 : w73.cell? ⟨gb127, 1, none⟩ = some (.slice none 0 0) := sC BK127 1 rfl
           have hfs76 := blk_frozen BK127.out 1
           have hns76_0 := NB101_127.out
           have hns76_1 := NB102_127.out
           have hns76_2 := NB109_127.out
           have hms76_0 := NB127_101.out
           have hms76_1 := NB127_102.out
           have hms76_2 := NB127_109.out
           have hs77 : w73.cell? ⟨gb127, 2, none⟩ = some (.slice none 0 0) := sC BK127 2 rfl
           have hfs77 := blk_frozen BK127.out 2
           have hns77_0 := NB101_127.out
           have hns77_1 := NB102_127.out
           have hns77_2 := NB109_127.out
           have hms77_0 := NB127_101.out
           have hms77_1 := NB127_102.out
           have hms77_2 := NB127_109.out
           refine skip_ (w1 := ?_) (by rfl) rfl ?_ ?_
           rotate_left
           ·go_simp
            rfl
           refine hK.out _ _ ⟨((cell_far (p := ⟨gb127, _, none⟩) NB101_127.out _).trans (((cell_far (p := ⟨gb127, _, none⟩) NB101_127.out _).trans (((cell_far (p := ⟨gb127, _, none⟩) NB101_127.out _).trans (hHeld.1)))))), ((cell_far (p := ⟨gb127, _, none⟩) NB101_127.out _).trans (((cell_far (p := ⟨gb127, _, none⟩) NB101_127.out _).trans (((cell_far (p := ⟨gb127, _, none⟩) NB101_127.out _).trans (hHeld.2.1)))))), ((cell_far (p := ⟨gb127, _, none⟩) NB101_127.out _).trans (((cell_far (p := ⟨gb127, _, none⟩) NB101_127.out _).trans (((cell_far (p := ⟨gb127, _, none⟩) NB101_127.out _).trans (hHeld.2.2.1)))))), ((cell_far (p := ⟨gb127, _, none⟩) NB109_127.out _).trans (((cell_far (p := ⟨gb127, _, none⟩) NB109_127.out _).trans (((cell_far (p := ⟨gb127, _, none⟩) NB109_127.out _).trans (hHeld.2.2.2))))))⟩ (fun hHeld => ?_)
           clear hK K
           refine done_ (done_of HT_.out (by kernel_rfl)) ?_
           have hnb78 := NB109_101.out
           have hnc78 := NB101_109.out
           have hnb79 := NB109_102.out
           have hnc79 := NB102_109.out
           have hnb80 := NB109_127.out
           have hnc80 := NB127_109.out
           have hcz81_0 : w73.cell? ⟨gb109, 0, none⟩ = some (.slice Ao26 t105.length co26) := sC BK109 0 rfl
           have hfz81_0 := blk_frozen BK109.out 0
           have hnb82 := NB127_101.out
           have hnc82 := NB101_127.out
           have hnb83 := NB127_102.out
           have hnc83 := NB102_127.out
           have hcz84_0 : w73.cell? ⟨gb127, 0, none⟩ = some (.int .i64 0) := sC BK127 0 rfl
           have hcz84_1 : w73.cell? ⟨gb127, 1, none⟩ = some (.slice none 0 0) := sC BK127 1 rfl
           have hcz84_2 : w73.cell? ⟨gb127, 2, none⟩ = some (.slice none 0 0) := sC BK127 2 rfl
           have hfz84_0 := blk_frozen BK127.out 0
           have hfz84_1 := blk_frozen BK127.out 1
           have hfz84_2 := blk_frozen BK127.out 2
           have p128 : 0 ≤ ((ji63) : Int) := of_decide_eq_true (by first | (with_reducible assumption) | assumption)
           have q128 : (ji63) < (t105.length : Int) := of_decide_eq_true (by first | (with_reducible assumption) | assumption)
           obtain ⟨ad128, e128, hx128_0, hx128_1⟩ := at_T59 (Kd.R_reads' HO_110000.out).2.2 (ji63) p128 q128
           cases e128
           have hn128_0 : ad128.block ≠ gb127 := Kd.own_blk (Kd.R_ne HO_110000.out BK127.out (by decide))
           have hn128_1 : ad128.block ≠ gb127 := Kd.own_blk (Kd.R_ne HO_110000.out BK127.out (by decide))
           have hn128_2 : ad128.block ≠ gb127 := Kd.own_blk (Kd.R_ne HO_110000.out BK127.out (by decide))
           replace hx128_0 := (cell_far (p := ⟨gb127, 0, none⟩) (by first | (rw [add_block]; exact hn128_0) | (show (Addr.add _ _).block ≠ _; rw [add_block]; exact hn128_0) | exact hn128_0) (.int .i64 a0_0)).trans hx128_0
           replace hx128_1 := (cell_far (p := ⟨gb127, 0, none⟩) (by first | (rw [add_block]; exact hn128_0) | (show (Addr.add _ _).block ≠ _; rw [add_block]; exact hn128_0) | exact hn128_0) (.int .i64 a0_0)).trans hx128_1
           replace hx128_0 := (cell_far (p := ⟨gb127, 1, none⟩) (by first | (rw [add_block]; exact hn128_1) | (show (Addr.add _ _).block ≠ _; rw [add_block]; exact hn128_1) | exact hn128_1) (.slice (some ad128) t105.length co26)).trans hx128_0
           replace hx128_1 := (cell_far (p := ⟨gb127, 1, none⟩) (by first | (rw [add_block]; exact hn128_1) | (show (Addr.add _ _).block ≠ _; rw [add_block]; exact hn128_1) | exact hn128_1) (.slice (some ad128) t105.length co26)).trans hx128_1
           replace hx128_0 := (cell_far (p := ⟨gb127, 2, none⟩) (by first | (rw [add_block]; exact hn128_2) | (show (Addr.add _ _).block ≠ _; rw [add_block]; exact hn128_2) | exact hn128_2) (.slice Ao74 t124.length co74)).trans hx128_0
           replace hx128_1 := (cell_far (p := ⟨gb127, 2, none⟩) (by first | (rw [add_block]; exact hn128_2) | (show (Addr.add _ _).block ≠ _; rw [add_block]; exact hn128_2) | exact hn128_2) (.slice Ao74 t124.length co74)).trans hx128_1
           clear hn128_0
           clear hn128_1
           clear hn128_2
           replace p128 := eq_true p128
           replace q128 := eq_true q128
           try go_wp2_with (first | ((with_reducible refine gate_callee (f := 36) rfl ?_); refine goesL_ (some 80) rfl rfl Try.func36 (by kernel_rfl) rfl #[.pointer (some ⟨gb127, 0, none⟩)] rfl (by (try simp only [List.map_toArray, List.map_cons, List.map_nil]); first | done | rfl | (simp only [List.length_drop, List.length_take]; rfl)) ?_; (with_reducible refine (impl_Span_82.calls2 k2 a0_0 (some ad128) co26 t105 Ao74 co74 t124 t129 _ ?side1 ?side2 ?side3 ?side4 A66.out (g := gb127) ?sideI).mono ?_); (case sideI => exact (by (with_reducible repeat first | apply blk_drewN | apply blk_drew | apply blk_alloc); refine blk_put (cs := #[.int .i64 a0_0, .slice (some ad128) t105.length co26, .slice none 0 0]) ?_ 2 _ rfl; (with_reducible repeat first | apply blk_drewN | apply blk_drew | apply blk_alloc); refine blk_put (cs := #[.int .i64 a0_0, .slice none 0 0, .slice none 0 0]) ?_ 1 _ rfl; (with_reducible repeat first | apply blk_drewN | apply blk_drew | apply blk_alloc); refine blk_put (cs := #[.int .i64 0, .slice none 0 0, .slice none 0 0]) ?_ 0 _ rfl; (with_reducible repeat first | apply blk_drewN | apply blk_drew | apply blk_alloc); exact BK127.out)); (case side1 => refine (Kd.R_reads' (e := 59) (base := w.heap.size) (ok := fun k_ => True) (n := t105.length) (c := co26) ?_).2.2; exact (sR (Kd.R_mono (Kd.R_far (p := ⟨gb127, 2, none⟩) (Kd.R_far (p := ⟨gb127, 1, none⟩) (Kd.R_far (p := ⟨gb127, 0, none⟩) (Kd.R_types HO_110000.out BK127.out (by decide)) (fun _ hk => hk.2) (.int .i64 a0_0)) (fun _ hk => hk.2) (.slice (some ad128) t105.length co26)) (fun _ hk => hk.2) (.slice Ao74 t124.length co74)) (fun _ h_ => h_.1)))); (case side2 => exact (Kd.R_reads' HO_110000.out).2.1); (case side3 => refine (Kd.R_reads' (e := 3) (base := w.heap.size) (ok := fun k_ => (some k_ ≠ (u10 : Value).ownBlock ∧ some k_ ≠ (v114 : Value).ownBlock)) (n := t124.length) (c := co74) ?_).2.2; exact (sR (Kd.R_mono (Kd.R_far (p := ⟨gb127, 2, none⟩) (Kd.R_far (p := ⟨gb127, 1, none⟩) (Kd.R_far (p := ⟨gb127, 0, none⟩) (Kd.R_types HO126.out BK127.out (by decide)) (fun _ hk => hk.2) (.int .i64 a0_0)) (fun _ hk => hk.2) (.slice (some ad128) t105.length co26)) (fun _ hk => hk.2) (.slice Ao74 t124.length co74)) (fun _ h_ => h_.1)))); (case side4 => exact (Kd.R_reads' HO126.out).2.1); rintro e w85 ⟨v130, rfl, ho0, hb⟩; refine ⟨_, rfl, ?_⟩; have n0_ := sA (Kd.R_elder' (sR (Kd.R_mono (Kd.R_far (p := ⟨gb127, 2, none⟩) (Kd.R_far (p := ⟨gb127, 1, none⟩) (Kd.R_far (p := ⟨gb127, 0, none⟩) (Kd.R_types HO_10.out BK127.out (by decide)) (fun _ hk => hk.2) (.int .i64 a0_0)) (fun _ hk => hk.2) (.slice (some ad128) t105.length co26)) (fun _ hk => hk.2) (.slice Ao74 t124.length co74)) (fun _ h_ => h_.1))) (Kd.R_base ho0) hb); have n1_ := sA (Kd.R_elder' (sR (Kd.R_mono (Kd.R_far (p := ⟨gb127, 2, none⟩) (Kd.R_far (p := ⟨gb127, 1, none⟩) (Kd.R_far (p := ⟨gb127, 0, none⟩) (Kd.R_types HO_11.out BK127.out (by decide)) (fun _ hk => hk.2) (.int .i64 a0_0)) (fun _ hk => hk.2) (.slice (some ad128) t105.length co26)) (fun _ hk => hk.2) (.slice Ao74 t124.length co74)) (fun _ h_ => h_.1))) (Kd.R_base ho0) hb); have n2_ := sA (Kd.R_below (sR (Kd.R_mono (Kd.R_far (p := ⟨gb127, 2, none⟩) (Kd.R_far (p := ⟨gb127, 1, none⟩) (Kd.R_far (p := ⟨gb127, 0, none⟩) (Kd.R_types HO_110000.out BK127.out (by decide)) (fun _ hk => hk.2) (.int .i64 a0_0)) (fun _ hk => hk.2) (.slice (some ad128) t105.length co26)) (fun _ hk => hk.2) (.slice Ao74 t124.length co74)) (fun _ h_ => h_.1))) hb); have n3_ := sA (Kd.R_elder' (sR (Kd.R_mono (Kd.R_far (p := ⟨gb127, 2, none⟩) (Kd.R_far (p := ⟨gb127, 1, none⟩) (Kd.R_far (p := ⟨gb127, 0, none⟩) (Kd.R_types HO126.out BK127.out (by decide)) (fun _ hk => hk.2) (.int .i64 a0_0)) (fun _ hk => hk.2) (.slice (some ad128) t105.length co26)) (fun _ hk => hk.2) (.slice Ao74 t124.length co74)) (fun _ h_ => h_.1))) (Kd.R_base ho0) hb); have n4_ := sA (Kd.R_lower (Kd.R_new' (Kd.R_new' (Kd.R_new' ho0 (Kd.R_lt (sR (Kd.R_mono (Kd.R_far (p := ⟨gb127, 2, none⟩) (Kd.R_far (p := ⟨gb127, 1, none⟩) (Kd.R_far (p := ⟨gb127, 0, none⟩) (Kd.R_types HO_10.out BK127.out (by decide)) (fun _ hk => hk.2) (.int .i64 a0_0)) (fun _ hk => hk.2) (.slice (some ad128) t105.length co26)) (fun _ hk => hk.2) (.slice Ao74 t124.length co74)) (fun _ h_ => h_.1))))) (Kd.R_lt (sR (Kd.R_mono (Kd.R_far (p := ⟨gb127, 2, none⟩) (Kd.R_far (p := ⟨gb127, 1, none⟩) (Kd.R_far (p := ⟨gb127, 0, none⟩) (Kd.R_types HO_11.out BK127.out (by decide)) (fun _ hk => hk.2) (.int .i64 a0_0)) (fun _ hk => hk.2) (.slice (some ad128) t105.length co26)) (fun _ hk => hk.2) (.slice Ao74 t124.length co74)) (fun _ h_ => h_.1))))) (Kd.R_lt (sR (Kd.R_mono (Kd.R_far (p := ⟨gb127, 2, none⟩) (Kd.R_far (p := ⟨gb127, 1, none⟩) (Kd.R_far (p := ⟨gb127, 0, none⟩) (Kd.R_types HO126.out BK127.out (by decide)) (fun _ hk => hk.2) (.int .i64 a0_0)) (fun _ hk => hk.2) (.slice (some ad128) t105.length co26)) (fun _ hk => hk.2) (.slice Ao74 t124.length co74)) (fun _ h_ => h_.1))))) (below_size (by repeat (first | (with_reducible first | exact HB.out | apply sLA | apply sLN | apply sLD | refine sLS ?_ (Aside0.out (by assumption))) | exact HB.out)))); have n5_ := sA (blk_below (g := gb101) (o := .cells #[.int .i64 a0_0, .slice A0_1 l0_1.length c0_1, .slice A0_2 l0_2.length c0_2] 31 (0, 0)) (by (with_reducible repeat first | apply blk_drewN | apply blk_drew | apply blk_alloc); refine blk_far ?_ NB101_127.out _; (with_reducible repeat first | apply blk_drewN | apply blk_drew | apply blk_alloc); refine blk_far ?_ NB101_127.out _; (with_reducible repeat first | apply blk_drewN | apply blk_drew | apply blk_alloc); refine blk_far ?_ NB101_127.out _; (with_reducible repeat first | apply blk_drewN | apply blk_drew | apply blk_alloc); exact BK101.out) hb); have n6_ := sA (blk_below (g := gb102) (o := .cells #[.int .i64 0, .slice none 0 0, .slice none 0 0] 31 (0, 0)) (by (with_reducible repeat first | apply blk_drewN | apply blk_drew | apply blk_alloc); refine blk_far ?_ NB102_127.out _; (with_reducible repeat first | apply blk_drewN | apply blk_drew | apply blk_alloc); refine blk_far ?_ NB102_127.out _; (with_reducible repeat first | apply blk_drewN | apply blk_drew | apply blk_alloc); refine blk_far ?_ NB102_127.out _; (with_reducible repeat first | apply blk_drewN | apply blk_drew | apply blk_alloc); exact BK102.out) hb); have n7_ := sA (blk_below (g := gb109) (o := .cells #[.slice (some ad128) t105.length co26] 29 (0, 0)) (by (with_reducible repeat first | apply blk_drewN | apply blk_drew | apply blk_alloc); refine blk_far ?_ NB109_127.out _; (with_reducible repeat first | apply blk_drewN | apply blk_drew | apply blk_alloc); refine blk_far ?_ NB109_127.out _; (with_reducible repeat first | apply blk_drewN | apply blk_drew | apply blk_alloc); refine blk_far ?_ NB109_127.out _; (with_reducible repeat first | apply blk_drewN | apply blk_drew | apply blk_alloc); exact BK109.out) hb); have n8_ := sA (blk_below (g := gb127) (o := .cells #[.int .i64 a0_0, .slice (some ad128) t105.length co26, .slice Ao74 t124.length co74] 31 (0, 0)) (by (with_reducible repeat first | apply blk_drewN | apply blk_drew | apply blk_alloc); refine blk_put (cs := #[.int .i64 a0_0, .slice (some ad128) t105.length co26, .slice none 0 0]) ?_ 2 _ rfl; (with_reducible repeat first | apply blk_drewN | apply blk_drew | apply blk_alloc); refine blk_put (cs := #[.int .i64 a0_0, .slice none 0 0, .slice none 0 0]) ?_ 1 _ rfl; (with_reducible repeat first | apply blk_drewN | apply blk_drew | apply blk_alloc); refine blk_put (cs := #[.int .i64 0, .slice none 0 0, .slice none 0 0]) ?_ 0 _ rfl; (with_reducible repeat first | apply blk_drewN | apply blk_drew | apply blk_alloc); exact BK127.out) hb); have n9_ := sA (below_step (by repeat (first | (with_reducible first | exact HB.out | apply sLA | apply sLN | apply sLD | refine sLS ?_ (Aside0.out (by assumption))) | exact HB.out)) hb); clear HO_10; clear HO_11; clear HO_110000; clear HO126; clear BK101; clear BK102; clear BK109; clear BK127; clear HB; have HO_10 := n0_; have HO_11 := n1_; have HO_110000 := n2_; have HO126 := n3_; have HO131 := n4_; have BK101 := n5_; have BK102 := n6_; have BK109 := n7_; have BK127 := n8_; have HB := n9_; clear n0_ n1_ n2_ n3_ n4_ n5_ n6_ n7_ n8_ n9_; (try clear hb); (try clear hb2); (try clear hk); (try clear hi); (try clear ho0); obtain ⟨Ao86, co86, eo86⟩ := Kd.R_slice HO131.out; subst eo86))
           go_loopg [11, 82] k2 (fun kq v11 v82 w' => ∃ (x11_3 : List Int) (x82_3 : Int), v82 = .int .i64 x82_3 ∧ Aside0 (impl_HearSpans.l1 kq x10_2 x11_3 (wrap64 (((rd_T59 t105 (ji63)).f1) - 1)) t129 (t129.length : Int) x82_3 a0_0 t105 t124 = some (r1, r2, r3, r4, r5, r6)) ∧ Aside0 (kq ≤ k2) ∧ Aside0 (Kd.R (Kd.int .i64) 3 w' w.heap.size (fun k_ => some k_ ≠ (v11 : Value).ownBlock ∧ some k_ ≠ ((.slice Ao86 t129.length co86) : Value).ownBlock ∧ some k_ ≠ ((.slice Ao74 t124.length co74) : Value).ownBlock) u10 x10_2) ∧ Aside0 (Kd.R (Kd.int .i64) 3 w' w.heap.size (fun k_ => some k_ ≠ (u10 : Value).ownBlock ∧ some k_ ≠ ((.slice Ao86 t129.length co86) : Value).ownBlock ∧ some k_ ≠ ((.slice Ao74 t124.length co74) : Value).ownBlock) v11 x11_3) ∧ Aside0 (Kd.R (Kd.int .i64) 3 w' w.heap.size (fun k_ => some k_ ≠ (u10 : Value).ownBlock ∧ some k_ ≠ (v11 : Value).ownBlock ∧ some k_ ≠ ((.slice Ao74 t124.length co74) : Value).ownBlock) (.slice Ao86 t129.length co86) t129) ∧ Aside0 (Kd.R k59 59 w' w.heap.size (fun _ => True) (.slice (some ad128) t105.length co26) t105) ∧ Aside0 (Kd.R k59 59 w' w.heap.size (fun _ => True) (.slice (some ad128) t105.length co26) t105) ∧ Aside0 (Kd.R (Kd.int .i64) 3 w' w.heap.size (fun k_ => some k_ ≠ (u10 : Value).ownBlock ∧ some k_ ≠ (v11 : Value).ownBlock ∧ some k_ ≠ ((.slice Ao86 t129.length co86) : Value).ownBlock) (.slice Ao74 t124.length co74) t124) ∧ Aside0 (w'.heap[gb101]? = some (.cells #[.int .i64 a0_0, (.slice A0_1 l0_1.length c0_1), (.slice A0_2 l0_2.length c0_2)] 31 (0, 0))) ∧ Aside0 (w'.heap[gb102]? = some (.cells #[.int .i64 0, (.slice none 0 0), (.slice none 0 0)] 31 (0, 0))) ∧ Aside0 (w'.heap[gb109]? = some (.cells #[(.slice (some ad128) t105.length co26)] 29 (0, 0))) ∧ Aside0 (w'.heap[gb127]? = some (.cells #[.int .i64 a0_0, (.slice (some ad128) t105.length co26), (.slice Ao74 t124.length co74)] 31 (0, 0))) ∧ Aside0 (Below w.heap.size w w'))
           case atStart => exact ⟨(y113), (0), (by first | rfl | (simp; done) | (simp [*]; done)), H', ⟨Nat.le_refl _⟩, ⟨sR (Kd.R_mono HO_10.out (fun _ hk => ⟨hk.1.2, ⟨hk.2, hk.1.1⟩⟩))⟩, ⟨sR (Kd.R_mono HO_11.out (fun _ hk => ⟨hk.1.2, ⟨hk.2, hk.1.1⟩⟩))⟩, ⟨sR (Kd.R_mono HO131.out (fun _ hk => ⟨hk.1.1.2, ⟨hk.1.2, hk.2⟩⟩))⟩, ⟨sR HO_110000.out⟩, ⟨sR HO_110000.out⟩, ⟨sR (Kd.R_mono HO126.out (fun _ hk => ⟨hk.1.1, ⟨hk.1.2, hk.2⟩⟩))⟩, ⟨sB BK101.out⟩, ⟨sB BK102.out⟩, ⟨sB BK109.out⟩, ⟨sB BK127.out⟩, ⟨by repeat (first | (with_reducible first | exact HB.out | apply sLA | apply sLN | apply sLD | refine sLS ?_ GE101.out | refine sLS ?_ GE102.out | refine sLS ?_ GE109.out | refine sLS ?_ GE127.out) | exact HB.out)⟩⟩
           case round =>
            clear H'
            try clear p1
            try clear q1
            try clear hx1
            try clear p2
            try clear c3
            try clear c4
            try clear p6
            try clear c7
            try clear c8
            try clear p12
            try clear q12
            try clear hx12
            try clear c39
            try clear c46
            try clear p64
            try clear c78
            try clear c79
            try clear c80
            try clear c82
            try clear c83
            try clear hcz81_0
            try clear hcz84_0
            try clear hcz84_1
            try clear hcz84_2
            try clear hfz81_0
            try clear hfz84_0
            try clear hfz84_1
            try clear hfz84_2
            try clear hx128_0
            try clear hx128_1
            try clear p128
            try clear q128
            obtain ⟨x11_3, x82_3, rfl, HA, HK3, HO_10, HO_11, HO_80, HO_110000, HO_128001, HO_128002, BK101, BK102, BK109, BK127, HB⟩ := hrel
            cases gk with
            | zero => exact absurd HA.out (by simp [impl_HearSpans.l1])
            | succ k3 =>
             have H := HA.out
             clear HA
             simp only [impl_HearSpans.l1] at H
             by_cases c87 : x82_3 < (t129.length : Int)
             ·rw [if_pos c87] at H
              have c87b0 : decide (x82_3 < (t129.length : Int)) = true := decide_eq_true c87
              clear c87
              by_cases c88 : 0 ≤ x82_3
              ·rw [if_pos c88] at H
               have c88b0 : decide (0 ≤ x82_3) = true := decide_eq_true c88
               clear c88
               by_cases c89 : x82_3 < (t129.length : Int)
               ·rw [if_pos c89] at H
                have c89b0 : decide (x82_3 < (t129.length : Int)) = true := decide_eq_true c89
                clear c89
                by_cases c90 : (wrap64 (((rd_T59 t105 (ji63)).f1) - 1)) ≥ (wrap64 ((rd t129 x82_3) + 3))
                ·rw [if_pos c90] at H
                 have c90b0 : decide ((wrap64 ((rd t129 x82_3) + 3)) ≤ (wrap64 (((rd_T59 t105 (ji63)).f1) - 1))) = true := decide_eq_true c90
                 clear c90
                 by_cases c91 : x11_3.length < 17592186044416
                 ·rw [if_pos c91] at H
                  have LMc91 := sA c91
                  clear c91
                  obtain ⟨y133, hy133⟩ : ∃ y_ : List Int, y_ = (x11_3 ++ [rd t129 x82_3]) := ⟨_, rfl⟩
                  replace H : (impl_HearSpans.l1 k3 x10_2 y133 (wrap64 (((rd_T59 t105 (ji63)).f1) - 1)) t129 (t129.length : Int) (wrap64 (x82_3 + 1)) a0_0 t105 t124) = some (r1, r2, r3, r4, r5, r6) := by first | (rw [hy133]; with_reducible exact H) | (have H2_ := (Option.bind_some _ _).symm.trans H; rw [hy133]; with_reducible exact H2_) | (have H2_ := (Option.bind_some _ _).symm.trans H; with_reducible exact H2_) | with_reducible exact H | (rw [hy133]; exact H) | exact H
                  have Ny133 := sA hy133
                  clear hy133
                  have H' := sA H
                  clear H
                  have p132 : 0 ≤ (x82_3 : Int) := of_decide_eq_true (by first | (with_reducible assumption) | assumption)
                  have q132 : x82_3 < (t129.length : Int) := of_decide_eq_true (by first | (with_reducible assumption) | assumption)
                  obtain ⟨ad132, e132, hx132_0⟩ := Kd.at_int (Kd.R_reads' HO_80.out).2.2 x82_3 p132 q132
                  cases e132
                  replace p132 := eq_true p132
                  replace q132 := eq_true q132
                  go_wp2_with (first | ((with_reducible refine gate_builtin (b := .append) (xs := #[.tmp 90, .tmp 92]) rfl ?_); at_builtin; refine Kd.R_append (Kd.int .i64) (w0 := w) w.heap.size rfl (.tmp 90) (.tmp 92) 23 3 (.int .i64 0) 8 rfl Try.underlying23 info3 rfl (by decide) (by omega) u11 x11_3 (rd t129 x82_3) [.int .i64 (rd t129 x82_3)] (fun k_ => some k_ ≠ (u10 : Value).ownBlock ∧ some k_ ≠ (.slice (some ad132) t129.length co86 : Value).ownBlock ∧ some k_ ≠ (.slice Ao74 t124.length co74 : Value).ownBlock) (fun _ => False) rfl rfl ?aP (fun _ hk => hk.elim) ?aF ?aO ?aB ?aS ?aL ?_; (case aP => exact rfl); (case aB => exact (by repeat (first | (with_reducible first | exact HB.out | apply sLA | apply sLN | apply sLD | refine sLS ?_ (Aside0.out (by assumption))) | exact HB.out))); (case aF => exact (fun k_ hk => ⟨Kd.fresh' (Kd.R_lt (sR HO_10.out)) k_ hk, Kd.fresh' (Kd.R_lt (sR HO_80.out)) k_ hk, Kd.fresh' (Kd.R_lt (sR HO_128002.out)) k_ hk⟩)); (case aO => exact (sR HO_11.out)); (case aS => exact (below_size (by repeat (first | (with_reducible first | exact HB.out | apply sLA | apply sLN | apply sLD | refine sLS ?_ (Aside0.out (by assumption))) | exact HB.out)))); (case aL => have := LMc91.out; omega); intro v134 w92 ho hb hg hat; rw [← Ny133.out] at ho; have n0_ := sA (Kd.R_after (ok := (fun k_ => some k_ ≠ (.slice (some ad132) t129.length co86 : Value).ownBlock ∧ some k_ ≠ (.slice Ao74 t124.length co74 : Value).ownBlock)) (sR (Kd.R_mono HO_10.out (fun _ hk => ⟨⟨hk.2.1, hk.2.2⟩, hk.1⟩))) hg hat); have n1_ := sA (Kd.R_after (ok := (fun k_ => some k_ ≠ (u10 : Value).ownBlock ∧ some k_ ≠ (.slice Ao74 t124.length co74 : Value).ownBlock)) (sR (Kd.R_mono HO_80.out (fun _ hk => ⟨⟨hk.1, hk.2.2⟩, hk.2.1⟩))) hg hat); have n2_ := sA (Kd.R_over' (sR HO_110000.out) (Kd.R_typed (sR HO_11.out)) (by decide) hg); have n3_ := sA (Kd.R_over' (sR HO_128001.out) (Kd.R_typed (sR HO_11.out)) (by decide) hg); have n4_ := sA (Kd.R_after (ok := (fun k_ => some k_ ≠ (u10 : Value).ownBlock ∧ some k_ ≠ (.slice (some ad132) t129.length co86 : Value).ownBlock)) (sR (Kd.R_mono HO_128002.out (fun _ hk => ⟨⟨hk.1, hk.2.2⟩, hk.2.1⟩))) hg hat); have n5_ := sA (blk_grown (g := gb101) (o := .cells #[.int .i64 a0_0, .slice A0_1 l0_1.length c0_1, .slice A0_2 l0_2.length c0_2] 31 (0, 0)) (sB BK101.out) hg (Kd.R_ne HO_11.out BK101.out (by decide))); have n6_ := sA (blk_grown (g := gb102) (o := .cells #[.int .i64 0, .slice none 0 0, .slice none 0 0] 31 (0, 0)) (sB BK102.out) hg (Kd.R_ne HO_11.out BK102.out (by decide))); have n7_ := sA (blk_grown (g := gb109) (o := .cells #[.slice (some ad128) t105.length co26] 29 (0, 0)) (sB BK109.out) hg (Kd.R_ne HO_11.out BK109.out (by decide))); have n8_ := sA (blk_grown (g := gb127) (o := .cells #[.int .i64 a0_0, .slice (some ad128) t105.length co26, .slice Ao74 t124.length co74] 31 (0, 0)) (sB BK127.out) hg (Kd.R_ne HO_11.out BK127.out (by decide))); have n9_ := sA (hb); have n10_ := sA (ho); clear HO_10; clear HO_80; clear HO_110000; clear HO_128001; clear HO_128002; clear BK101; clear BK102; clear BK109; clear BK127; clear HB; clear HO_11; have HO_10 := n0_; have HO_80 := n1_; have HO_110000 := n2_; have HO_128001 := n3_; have HO_128002 := n4_; have BK101 := n5_; have BK102 := n6_; have BK109 := n7_; have BK127 := n8_; have HB := n9_; have HO135 := n10_; clear n0_ n1_ n2_ n3_ n4_ n5_ n6_ n7_ n8_ n9_ n10_; clear ho hb hg hat))
                  go_roundg k3
                  case measure => have := HJ2.out; have := HK2.out; have := HK3.out; omega
                  case rel => exact ⟨(y133), (wrap64 (x82_3 + 1)), (by first | rfl | (simp; done) | (simp [*]; done)), H', ⟨by have := HJ2.out; have := HK2.out; have := HK3.out; omega⟩, ⟨sR (Kd.R_mono HO_10.out (fun _ hk => ⟨hk.2, ⟨hk.1.1, hk.1.2⟩⟩))⟩, ⟨sR HO135.out⟩, ⟨sR (Kd.R_mono HO_80.out (fun _ hk => ⟨hk.1.1, ⟨hk.2, hk.1.2⟩⟩))⟩, ⟨sR HO_110000.out⟩, ⟨sR HO_128001.out⟩, ⟨sR (Kd.R_mono HO_128002.out (fun _ hk => ⟨hk.1.1, ⟨hk.2, hk.1.2⟩⟩))⟩, ⟨sB BK101.out⟩, ⟨sB BK102.out⟩, ⟨sB BK109.out⟩, ⟨sB BK127.out⟩, ⟨by repeat (first | (with_reducible first | exact HB.out | apply sLA | apply sLN | apply sLD | refine sLS ?_ GE101.out | refine sLS ?_ GE102.out | refine sLS ?_ GE109.out | refine sLS ?_ GE127.out) | exact HB.out)⟩⟩
                 ·rw [if_neg c91] at H
                  exact absurd H (by simp)
                ·rw [if_neg c90] at H
                 have c90b0 : decide ((wrap64 ((rd t129 x82_3) + 3)) ≤ (wrap64 (((rd_T59 t105 (ji63)).f1) - 1))) = false := decide_eq_false c90
                 clear c90
                 have H' := sA H
                 clear H
                 have p132 : 0 ≤ (x82_3 : Int) := of_decide_eq_true (by first | (with_reducible assumption) | assumption)
                 have q132 : x82_3 < (t129.length : Int) := of_decide_eq_true (by first | (with_reducible assumption) | assumption)
                 obtain ⟨ad132, e132, hx132_0⟩ := Kd.at_int (Kd.R_reads' HO_80.out).2.2 x82_3 p132 q132
                 cases e132
                 replace p132 := eq_true p132
                 replace q132 := eq_true q132
                 go_wp2
                 go_roundg k3
                 case measure => have := HJ2.out; have := HK2.out; have := HK3.out; omega
                 case rel => exact ⟨(x11_3), (wrap64 (x82_3 + 1)), (by first | rfl | (simp; done) | (simp [*]; done)), H', ⟨by have := HJ2.out; have := HK2.out; have := HK3.out; omega⟩, ⟨sR HO_10.out⟩, ⟨sR HO_11.out⟩, ⟨sR HO_80.out⟩, ⟨sR HO_110000.out⟩, ⟨sR HO_128001.out⟩, ⟨sR HO_128002.out⟩, ⟨sB BK101.out⟩, ⟨sB BK102.out⟩, ⟨sB BK109.out⟩, ⟨sB BK127.out⟩, ⟨by repeat (first | (with_reducible first | exact HB.out | apply sLA | apply sLN | apply sLD | refine sLS ?_ GE101.out | refine sLS ?_ GE102.out | refine sLS ?_ GE109.out | refine sLS ?_ GE127.out) | exact HB.out)⟩⟩
               ·rw [if_neg c89] at H
                exact absurd H (by simp)
              ·rw [if_neg c88] at H
               exact absurd H (by simp)
             ·rw [if_neg c87] at H
              have c87b0 : decide (x82_3 < (t129.length : Int)) = false := decide_eq_false c87
              clear c87
              by_cases c93 : t124.length + x11_3.length < 17592186044416
              ·rw [if_pos c93] at H
               have LMc93 := sA c93
               clear c93
               obtain ⟨y136, hy136⟩ : ∃ y_ : List Int, y_ = (t124 ++ x11_3) := ⟨_, rfl⟩
               replace H : ((slices_Sort_int_int.f y136).bind fun t139 => (some (a0_0, t105, t139, x10_2, x11_3, true))) = some (r1, r2, r3, r4, r5, r6) := by first | (rw [hy136]; with_reducible exact H) | (have H2_ := (Option.bind_some _ _).symm.trans H; rw [hy136]; with_reducible exact H2_) | (have H2_ := (Option.bind_some _ _).symm.trans H; with_reducible exact H2_) | with_reducible exact H | (rw [hy136]; exact H) | exact H
               have Ny136 := sA hy136
               clear hy136
               replace H := Option.bind_eq_some_iff.mp H
               obtain ⟨t139, A940, H⟩ := H
               replace H : (some (a0_0, t105, t139, x10_2, x11_3, true)) = some (r1, r2, r3, r4, r5, r6) := H
               have A94 := sA A940
               clear A940
               simp only [Option.some.injEq, Prod.mk.injEq] at H
               obtain ⟨rfl, rfl, rfl, rfl, rfl, rfl⟩ := H
               have hnb95 := NB127_101.out
               have hnc95 := NB101_127.out
               have hnb96 := NB127_102.out
               have hnc96 := NB102_127.out
               have hnb97 := NB127_109.out
               have hnc97 := NB109_127.out
               have hcz98_0 : wr.cell? ⟨gb127, 0, none⟩ = some (.int .i64 a0_0) := sC BK127 0 rfl
               have hcz98_1 : wr.cell? ⟨gb127, 1, none⟩ = some (.slice (some ad128) t105.length co26) := sC BK127 1 rfl
               have hcz98_2 : wr.cell? ⟨gb127, 2, none⟩ = some (.slice Ao74 t124.length co74) := sC BK127 2 rfl
               have hfz98_0 := blk_frozen BK127.out 0
               have hfz98_1 := blk_frozen BK127.out 1
               have hfz98_2 := blk_frozen BK127.out 2
               obtain ⟨Ao100, co100, eo100⟩ := Kd.R_slice HO_11.out
               subst eo100
               go_wp2_with (first | ((with_reducible refine gate_builtin (b := .append) (xs := #[.tmp 96, .tmp 97]) rfl ?_); at_builtin; refine Kd.R_append_rows (Kd.int .i64) (w0 := w) w.heap.size rfl (.tmp 96) (.tmp 97) 23 3 (.int .i64 0) 8 rfl Try.underlying23 info3 rfl (by decide) (by omega) (.slice Ao74 t124.length co74) t124 x11_3 _ _ _ (fun k_ => some k_ ≠ (u10 : Value).ownBlock ∧ some k_ ≠ (.slice Ao100 x11_3.length co100 : Value).ownBlock ∧ some k_ ≠ (.slice Ao86 t129.length co86 : Value).ownBlock) (fun _ => False) rfl rfl ?aO ?aR (fun _ _ h => h) (fun _ h => h.elim) ?aF ?aB ?aS ?aL ?_; (case aR => repeat (first | exact (Kd.R_reads' HO_11.out).2.2 | (with_reducible refine Kd.C_alloc ?_ _) | (with_reducible refine Kd.C_drewN ?_ _) | (with_reducible refine Kd.C_drew ?_))); (case aB => exact (by repeat (first | (with_reducible first | exact HB.out | apply sLA | apply sLN | apply sLD | refine sLS ?_ (Aside0.out (by assumption))) | exact HB.out))); (case aF => exact (fun k_ hk => ⟨Kd.fresh' (Kd.R_lt (sR HO_10.out)) k_ hk, Kd.fresh' (Kd.R_lt (sR HO_11.out)) k_ hk, Kd.fresh' (Kd.R_lt (sR HO_80.out)) k_ hk⟩)); (case aO => exact (sR HO_128002.out)); (case aS => exact (below_size (by repeat (first | (with_reducible first | exact HB.out | apply sLA | apply sLN | apply sLD | refine sLS ?_ (Aside0.out (by assumption))) | exact HB.out)))); (case aL => have := LMc93.out; omega); intro v137 w99 ho hb hg hat; rw [← Ny136.out] at ho; have n0_ := sA (Kd.R_after (ok := (fun k_ => some k_ ≠ (.slice Ao100 x11_3.length co100 : Value).ownBlock ∧ some k_ ≠ (.slice Ao86 t129.length co86 : Value).ownBlock)) (sR (Kd.R_mono HO_10.out (fun _ hk => ⟨⟨hk.1, hk.2.1⟩, hk.2.2⟩))) hg hat); have n1_ := sA (Kd.R_after (ok := (fun k_ => some k_ ≠ (u10 : Value).ownBlock ∧ some k_ ≠ (.slice Ao86 t129.length co86 : Value).ownBlock)) (sR (Kd.R_mono HO_11.out (fun _ hk => ⟨⟨hk.1, hk.2.1⟩, hk.2.2⟩))) hg hat); have n2_ := sA (Kd.R_after (ok := (fun k_ => some k_ ≠ (u10 : Value).ownBlock ∧ some k_ ≠ (.slice Ao100 x11_3.length co100 : Value).ownBlock)) (sR (Kd.R_mono HO_80.out (fun _ hk => ⟨⟨hk.1, hk.2.1⟩, hk.2.2⟩))) hg hat); have n3_ := sA (Kd.R_over' (sR HO_110000.out) (Kd.R_typed (sR HO_128002.out)) (by decide) hg); have n4_ := sA (Kd.R_over' (sR HO_128001.out) (Kd.R_typed (sR HO_128002.out)) (by decide) hg); have n5_ := sA (blk_grown (g := gb101) (o := .cells #[.int .i64 a0_0, .slice A0_1 l0_1.length c0_1, .slice A0_2 l0_2.length c0_2] 31 (0, 0)) (sB BK101.out) hg (Kd.R_ne HO_128002.out BK101.out (by decide))); have n6_ := sA (blk_grown (g := gb102) (o := .cells #[.int .i64 0, .slice none 0 0, .slice none 0 0] 31 (0, 0)) (sB BK102.out) hg (Kd.R_ne HO_128002.out BK102.out (by decide))); have n7_ := sA (blk_grown (g := gb109) (o := .cells #[.slice (some ad128) t105.length co26] 29 (0, 0)) (sB BK109.out) hg (Kd.R_ne HO_128002.out BK109.out (by decide))); have n8_ := sA (blk_grown (g := gb127) (o := .cells #[.int .i64 a0_0, .slice (some ad128) t105.length co26, .slice Ao74 t124.length co74] 31 (0, 0)) (sB BK127.out) hg (Kd.R_ne HO_128002.out BK127.out (by decide))); have n9_ := sA (hb); have n10_ := sA (ho); clear HO_10; clear HO_11; clear HO_80; clear HO_110000; clear HO_128001; clear BK101; clear BK102; clear BK109; clear BK127; clear HB; clear HO_128002; have HO_10 := n0_; have HO_11 := n1_; have HO_80 := n2_; have HO_110000 := n3_; have HO_128001 := n4_; have BK101 := n5_; have BK102 := n6_; have BK109 := n7_; have BK127 := n8_; have HB := n9_; have HO138 := n10_; clear n0_ n1_ n2_ n3_ n4_ n5_ n6_ n7_ n8_ n9_ n10_; clear ho hb hg hat; obtain ⟨Ao101, co101, eo101⟩ := Kd.R_slice HO138.out; subst eo101; have hcz102_0 : w99.cell? ⟨gb127, 0, none⟩ = some (.int .i64 a0_0) := sC BK127 0 rfl; have hcz102_1 : w99.cell? ⟨gb127, 1, none⟩ = some (.slice (some ad128) t105.length co26) := sC BK127 1 rfl; have hcz102_2 : w99.cell? ⟨gb127, 2, none⟩ = some (.slice Ao74 t124.length co74) := sC BK127 2 rfl; have hfz102_0 := blk_frozen BK127.out 0; have hfz102_1 := blk_frozen BK127.out 1; have hfz102_2 := blk_frozen BK127.out 2) | ((with_reducible refine gate_store (t := 23) (p := 99) rfl ?_); refine store_event (t := 23) (p := 99) (v := ?vo_w103) (w1 := (w99.setCell ⟨gb127, 2, none⟩ (.slice Ao101 y136.length co101))) ?hg ?ho ?hn ?hr ?_; (case ho => rfl); (case hg => rfl); (case hn => rfl); (case hr => first | (go_simp; done) | (go_simp; rfl)); intro w103 hw; have n0_ : Aside0 (Kd.R (Kd.int .i64) 3 w103 w.heap.size (fun k_ => some k_ ≠ (.slice Ao100 x11_3.length co100 : Value).ownBlock ∧ some k_ ≠ (.slice Ao86 t129.length co86 : Value).ownBlock ∧ some k_ ≠ (.slice Ao101 y136.length co101 : Value).ownBlock) u10 x10_2) := ⟨(by rw [hw]; exact (sR (Kd.R_mono (Kd.R_far (p := ⟨gb127, 2, none⟩) (Kd.R_types HO_10.out BK127.out (by decide)) (fun _ hk => hk.2) (.slice Ao101 y136.length co101)) (fun _ hk => ⟨hk.1.1.1, ⟨hk.1.1.2, hk.1.2⟩⟩))))⟩; have n1_ : Aside0 (Kd.R (Kd.int .i64) 3 w103 w.heap.size (fun k_ => some k_ ≠ (u10 : Value).ownBlock ∧ some k_ ≠ (.slice Ao86 t129.length co86 : Value).ownBlock ∧ some k_ ≠ (.slice Ao101 y136.length co101 : Value).ownBlock) (.slice Ao100 x11_3.length co100) x11_3) := ⟨(by rw [hw]; exact (sR (Kd.R_mono (Kd.R_far (p := ⟨gb127, 2, none⟩) (Kd.R_types HO_11.out BK127.out (by decide)) (fun _ hk => hk.2) (.slice Ao101 y136.length co101)) (fun _ hk => ⟨hk.1.1.1, ⟨hk.1.1.2, hk.1.2⟩⟩))))⟩; have n2_ : Aside0 (Kd.R (Kd.int .i64) 3 w103 w.heap.size (fun k_ => some k_ ≠ (u10 : Value).ownBlock ∧ some k_ ≠ (.slice Ao100 x11_3.length co100 : Value).ownBlock ∧ some k_ ≠ (.slice Ao101 y136.length co101 : Value).ownBlock) (.slice Ao86 t129.length co86) t129) := ⟨(by rw [hw]; exact (sR (Kd.R_mono (Kd.R_far (p := ⟨gb127, 2, none⟩) (Kd.R_types HO_80.out BK127.out (by decide)) (fun _ hk => hk.2) (.slice Ao101 y136.length co101)) (fun _ hk => ⟨hk.1.1.1, ⟨hk.1.1.2, hk.1.2⟩⟩))))⟩; have n3_ : Aside0 (Kd.R k59 59 w103 w.heap.size (fun _ => True) (.slice (some ad128) t105.length co26) t105) := ⟨(by rw [hw]; exact (sR (Kd.R_mono (Kd.R_far (p := ⟨gb127, 2, none⟩) (Kd.R_types HO_110000.out BK127.out (by decide)) (fun _ hk => hk.2) (.slice Ao101 y136.length co101)) (fun _ hk => trivial))))⟩; have n4_ : Aside0 (Kd.R k59 59 w103 w.heap.size (fun _ => True) (.slice (some ad128) t105.length co26) t105) := ⟨(by rw [hw]; exact (sR (Kd.R_mono (Kd.R_far (p := ⟨gb127, 2, none⟩) (Kd.R_types HO_128001.out BK127.out (by decide)) (fun _ hk => hk.2) (.slice Ao101 y136.length co101)) (fun _ hk => trivial))))⟩; have n5_ : Aside0 (Kd.R (Kd.int .i64) 3 w103 w.heap.size (fun k_ => some k_ ≠ (u10 : Value).ownBlock ∧ some k_ ≠ (.slice Ao100 x11_3.length co100 : Value).ownBlock ∧ some k_ ≠ (.slice Ao86 t129.length co86 : Value).ownBlock) (.slice Ao101 y136.length co101) y136) := ⟨(by rw [hw]; exact (sR (Kd.R_mono (Kd.R_far (p := ⟨gb127, 2, none⟩) (Kd.R_types HO138.out BK127.out (by decide)) (fun _ hk => hk.2) (.slice Ao101 y136.length co101)) (fun _ hk => ⟨hk.1.1, ⟨hk.1.2.1, hk.1.2.2⟩⟩))))⟩; have n6_ : Aside0 (w103.heap[gb101]? = some (.cells #[.int .i64 a0_0, .slice A0_1 l0_1.length c0_1, .slice A0_2 l0_2.length c0_2] 31 (0, 0))) := ⟨(by rw [hw]; exact (by (with_reducible repeat first | apply blk_drewN | apply blk_drew | apply blk_alloc); refine blk_far ?_ NB101_127.out _; (with_reducible repeat first | apply blk_drewN | apply blk_drew | apply blk_alloc); exact BK101.out))⟩; have n7_ : Aside0 (w103.heap[gb102]? = some (.cells #[.int .i64 0, .slice none 0 0, .slice none 0 0] 31 (0, 0))) := ⟨(by rw [hw]; exact (by (with_reducible repeat first | apply blk_drewN | apply blk_drew | apply blk_alloc); refine blk_far ?_ NB102_127.out _; (with_reducible repeat first | apply blk_drewN | apply blk_drew | apply blk_alloc); exact BK102.out))⟩; have n8_ : Aside0 (w103.heap[gb109]? = some (.cells #[.slice (some ad128) t105.length co26] 29 (0, 0))) := ⟨(by rw [hw]; exact (by (with_reducible repeat first | apply blk_drewN | apply blk_drew | apply blk_alloc); refine blk_far ?_ NB109_127.out _; (with_reducible repeat first | apply blk_drewN | apply blk_drew | apply blk_alloc); exact BK109.out))⟩; have n9_ : Aside0 (w103.heap[gb127]? = some (.cells #[.int .i64 a0_0, .slice (some ad128) t105.length co26, .slice Ao101 y136.length co101] 31 (0, 0))) := ⟨(by rw [hw]; exact (by (with_reducible repeat first | apply blk_drewN | apply blk_drew | apply blk_alloc); refine blk_put (cs := #[.int .i64 a0_0, .slice (some ad128) t105.length co26, .slice Ao74 t124.length co74]) ?_ 2 _ rfl; (with_reducible repeat first | apply blk_drewN | apply blk_drew | apply blk_alloc); exact BK127.out))⟩; have n10_ : Aside0 (Below w.heap.size w w103) := ⟨(by rw [hw]; exact (by repeat (first | (with_reducible first | exact HB.out | apply sLA | apply sLN | apply sLD | refine sLS ?_ (Aside0.out (by assumption))) | exact HB.out)))⟩; clear hw; clear HO_10; clear HO_11; clear HO_80; clear HO_110000; clear HO_128001; clear HO138; clear BK101; clear BK102; clear BK109; clear BK127; clear HB; have HO_10 := n0_; have HO_11 := n1_; have HO_80 := n2_; have HO_110000 := n3_; have HO_128001 := n4_; have HO138 := n5_; have BK101 := n6_; have BK102 := n7_; have BK109 := n8_; have BK127 := n9_; have HB := n10_; clear n0_ n1_ n2_ n3_ n4_ n5_ n6_ n7_ n8_ n9_ n10_; have hcz104_0 : w103.cell? ⟨gb127, 0, none⟩ = some (.int .i64 a0_0) := sC BK127 0 rfl; have hcz104_1 : w103.cell? ⟨gb127, 1, none⟩ = some (.slice (some ad128) t105.length co26) := sC BK127 1 rfl; have hcz104_2 : w103.cell? ⟨gb127, 2, none⟩ = some (.slice Ao101 y136.length co101) := sC BK127 2 rfl; have hfz104_0 := blk_frozen BK127.out 0; have hfz104_1 := blk_frozen BK127.out 1; have hfz104_2 := blk_frozen BK127.out 2) | ((with_reducible refine gate_callee (f := 48) rfl ?_); refine goesL_ (some 102) rfl rfl Try.func48 (by kernel_rfl) rfl #[.slice Ao101 y136.length co101] rfl (by (try simp only [List.map_toArray, List.map_cons, List.map_nil]); first | done | rfl | (simp only [List.length_drop, List.length_take]; rfl)) ?_; (with_reducible refine (slices_Sort_int_int.calls (fun k_ => some k_ = (.slice Ao101 y136.length co101 : Value).ownBlock) (.slice Ao101 y136.length co101) y136 t139 w _ ?side1 ?side2 A94.out).mono ?_); (case side1 => repeat (first | (with_reducible first | exact HB.out | apply sLA | apply sLN | apply sLD | refine sLS ?_ GE101.out | refine sLS ?_ GE102.out | refine sLS ?_ GE109.out | refine sLS ?_ GE127.out) | exact HB.out)); (case side2 => exact Kd.R_tight rfl HO138.out); rintro e w105 ⟨rfl, hy0, hb, hkp⟩; refine ⟨_, rfl, ?_⟩; have n0_ := sA (Kd.R_mono (ok' := fun k_ => some k_ ≠ (.slice Ao100 x11_3.length co100 : Value).ownBlock ∧ some k_ ≠ (.slice Ao86 t129.length co86 : Value).ownBlock ∧ some k_ ≠ (.slice Ao101 y136.length co101 : Value).ownBlock) (Kd.R_keptB (HO_10.out) hkp (fun k_ hk_ hs_ => (hk_.2.2) hs_)) (fun k_ hk_ => ⟨hk_.1.1, hk_.1.2.1, hk_.1.2.2⟩)); have n1_ := sA (Kd.R_mono (ok' := fun k_ => some k_ ≠ (u10 : Value).ownBlock ∧ some k_ ≠ (.slice Ao86 t129.length co86 : Value).ownBlock ∧ some k_ ≠ (.slice Ao101 y136.length co101 : Value).ownBlock) (Kd.R_keptB (HO_11.out) hkp (fun k_ hk_ hs_ => (hk_.2.2) hs_)) (fun k_ hk_ => ⟨hk_.1.1, hk_.1.2.1, hk_.1.2.2⟩)); have n2_ := sA (Kd.R_mono (ok' := fun k_ => some k_ ≠ (u10 : Value).ownBlock ∧ some k_ ≠ (.slice Ao100 x11_3.length co100 : Value).ownBlock ∧ some k_ ≠ (.slice Ao101 y136.length co101 : Value).ownBlock) (Kd.R_keptB (HO_80.out) hkp (fun k_ hk_ hs_ => (hk_.2.2) hs_)) (fun k_ hk_ => ⟨hk_.1.1, hk_.1.2.1, hk_.1.2.2⟩)); have n3_ := sA (Kd.R_mono (ok' := fun k_ => True) (Kd.R_keptB ((Kd.R_apart' HO_110000.out (Kd.R_typed HO138.out) (by decide))) hkp (fun k_ hk_ hs_ => (hk_.2) hs_)) (fun k_ hk_ => trivial)); have n4_ := sA (Kd.R_mono (ok' := fun k_ => True) (Kd.R_keptB ((Kd.R_apart' HO_128001.out (Kd.R_typed HO138.out) (by decide))) hkp (fun k_ hk_ hs_ => (hk_.2) hs_)) (fun k_ hk_ => trivial)); have n5_ := sA (blk_kept (sB BK101.out) hkp (fun hs_ => (fun e_ => (Kd.R_ne HO138.out BK101.out (by decide)) e_) hs_)); have n6_ := sA (blk_kept (sB BK102.out) hkp (fun hs_ => (fun e_ => (Kd.R_ne HO138.out BK102.out (by decide)) e_) hs_)); have n7_ := sA (blk_kept (sB BK109.out) hkp (fun hs_ => (fun e_ => (Kd.R_ne HO138.out BK109.out (by decide)) e_) hs_)); have n8_ := sA (blk_kept (sB BK127.out) hkp (fun hs_ => (fun e_ => (Kd.R_ne HO138.out BK127.out (by decide)) e_) hs_)); have n9_ := sA (Kd.R_reok rfl hy0 (fun k_ e_ => HO138.out.1 k_ e_)); have n10_ := sA (hb); clear HO_10; clear HO_11; clear HO_80; clear HO_110000; clear HO_128001; clear BK101; clear BK102; clear BK109; clear BK127; clear HO138; clear HB; have HO_10 := n0_; have HO_11 := n1_; have HO_80 := n2_; have HO_110000 := n3_; have HO_128001 := n4_; have BK101 := n5_; have BK102 := n6_; have BK109 := n7_; have BK127 := n8_; have HO138 := n9_; have HB := n10_; clear n0_ n1_ n2_ n3_ n4_ n5_ n6_ n7_ n8_ n9_ n10_; (try clear hb); (try clear hkp); (try clear hy0); have hcz106_0 : w105.cell? ⟨gb127, 0, none⟩ = some (.int .i64 a0_0) := sC BK127 0 rfl; have hcz106_1 : w105.cell? ⟨gb127, 1, none⟩ = some (.slice (some ad128) t105.length co26) := sC BK127 1 rfl; have hcz106_2 : w105.cell? ⟨gb127, 2, none⟩ = some (.slice Ao101 y136.length co101) := sC BK127 2 rfl; have hfz106_0 := blk_frozen BK127.out 0; have hfz106_1 := blk_frozen BK127.out 1; have hfz106_2 := blk_frozen BK127.out 2; have hnb107 := NB102_101.out; have hnc107 := NB101_102.out; have hnb108 := NB102_109.out; have hnc108 := NB109_102.out; have hcz109_0 : w105.cell? ⟨gb102, 0, none⟩ = some (.int .i64 0) := sC BK102 0 rfl; have hcz109_1 : w105.cell? ⟨gb102, 1, none⟩ = some (.slice none 0 0) := sC BK102 1 rfl; have hcz109_2 : w105.cell? ⟨gb102, 2, none⟩ = some (.slice none 0 0) := sC BK102 2 rfl; have hfz109_0 := blk_frozen BK102.out 0; have hfz109_1 := blk_frozen BK102.out 1; have hfz109_2 := blk_frozen BK102.out 2))
               refine bodyPost_ret (results_list (rs := [.cell 4 31, .tmp 5, .tmp 6, .tmp 7]) rfl (by simp) (.cell gb102 31 #[.int .i64 a0_0, .slice (some ad128) t105.length co26, .slice Ao101 y136.length co101] (0, 0) _ rfl (by (with_reducible repeat first | apply blk_drewN | apply blk_drew | apply blk_alloc); refine blk_put (cs := #[.int .i64 a0_0, .slice (some ad128) t105.length co26, .slice none 0 0]) ?_ 2 _ rfl; (with_reducible repeat first | apply blk_drewN | apply blk_drew | apply blk_alloc); refine blk_put (cs := #[.int .i64 a0_0, .slice none 0 0, .slice none 0 0]) ?_ 1 _ rfl; (with_reducible repeat first | apply blk_drewN | apply blk_drew | apply blk_alloc); refine blk_put (cs := #[.int .i64 0, .slice none 0 0, .slice none 0 0]) ?_ 0 _ rfl; (with_reducible repeat first | apply blk_drewN | apply blk_drew | apply blk_alloc); exact BK102.out) Try.underlying31 rfl (by kernel_rfl) (.tmp (.tmp (.tmp .nil))))) rfl ?_
               exact ⟨_, _, _, _, by first | rfl | (simp [errW_none, errW_some] <;> rfl) | (simp only [← hji63]; first | rfl | (simp [errW_none, errW_some] <;> rfl)) | (simp [*, errW_none, errW_some] <;> rfl), by (with_reducible repeat (first | apply Kd.R_alloc | apply Kd.R_drewN | apply Kd.R_drew)); exact Kd.R_mono (Kd.R_far (p := ⟨gb102, 2, none⟩) (Kd.R_far (p := ⟨gb102, 1, none⟩) (Kd.R_far (p := ⟨gb102, 0, none⟩) (Kd.R_types HO_128001.out BK102.out (by decide)) (fun _ hk => hk.2) (.int .i64 a0_0)) (fun _ hk => hk.2) (.slice (some ad128) t105.length co26)) (fun _ hk => hk.2) (.slice Ao101 y136.length co101)) (fun _ hk => trivial), by (with_reducible repeat (first | apply Kd.R_alloc | apply Kd.R_drewN | apply Kd.R_drew)); exact Kd.R_mono (Kd.R_far (p := ⟨gb102, 2, none⟩) (Kd.R_far (p := ⟨gb102, 1, none⟩) (Kd.R_far (p := ⟨gb102, 0, none⟩) (Kd.R_types HO138.out BK102.out (by decide)) (fun _ hk => hk.2) (.int .i64 a0_0)) (fun _ hk => hk.2) (.slice (some ad128) t105.length co26)) (fun _ hk => hk.2) (.slice Ao101 y136.length co101)) (fun _ hk => ⟨hk.1.1, hk.1.2.1⟩), by (with_reducible repeat (first | apply Kd.R_alloc | apply Kd.R_drewN | apply Kd.R_drew)); exact Kd.R_mono (Kd.R_far (p := ⟨gb102, 2, none⟩) (Kd.R_far (p := ⟨gb102, 1, none⟩) (Kd.R_far (p := ⟨gb102, 0, none⟩) (Kd.R_types HO_10.out BK102.out (by decide)) (fun _ hk => hk.2) (.int .i64 a0_0)) (fun _ hk => hk.2) (.slice (some ad128) t105.length co26)) (fun _ hk => hk.2) (.slice Ao101 y136.length co101)) (fun _ hk => ⟨hk.1.2.2, hk.1.1⟩), by (with_reducible repeat (first | apply Kd.R_alloc | apply Kd.R_drewN | apply Kd.R_drew)); exact Kd.R_mono (Kd.R_far (p := ⟨gb102, 2, none⟩) (Kd.R_far (p := ⟨gb102, 1, none⟩) (Kd.R_far (p := ⟨gb102, 0, none⟩) (Kd.R_types HO_11.out BK102.out (by decide)) (fun _ hk => hk.2) (.int .i64 a0_0)) (fun _ hk => hk.2) (.slice (some ad128) t105.length co26)) (fun _ hk => hk.2) (.slice Ao101 y136.length co101)) (fun _ hk => ⟨hk.1.2.2, hk.1.1⟩), by repeat (first | (with_reducible first | exact HB.out | apply sLA | apply sLN | apply sLD | refine sLS ?_ GE101.out | refine sLS ?_ GE102.out | refine sLS ?_ GE109.out | refine sLS ?_ GE127.out) | exact HB.out)⟩
              ·rw [if_neg c93] at H
               exact absurd H (by simp)
          ·rw [if_neg c65] at H
           exact absurd H (by simp)
         ·rw [if_neg c64] at H
          exact absurd H (by simp)
        ·rw [if_neg c62] at H
         have c62b0 : decide (0 < (t105.length : Int)) = false := decide_eq_false c62
         have c62b1 : decide (0 < t105.length) = false := decide_eq_false (by omega)
         clear c62
         by_cases c110 : t124.length + y113.length < 17592186044416
         ·rw [if_pos c110] at H
          have LMc110 := sA c110
          clear c110
          obtain ⟨y140, hy140⟩ : ∃ y_ : List Int, y_ = (t124 ++ y113) := ⟨_, rfl⟩
          replace H : ((slices_Sort_int_int.f y140).bind fun t143 => (some (a0_0, t105, t143, x10_2, y113, true))) = some (r1, r2, r3, r4, r5, r6) := by first | (rw [hy140]; with_reducible exact H) | (have H2_ := (Option.bind_some _ _).symm.trans H; rw [hy140]; with_reducible exact H2_) | (have H2_ := (Option.bind_some _ _).symm.trans H; with_reducible exact H2_) | with_reducible exact H | (rw [hy140]; exact H) | exact H
          have Ny140 := sA hy140
          clear hy140
          replace H := Option.bind_eq_some_iff.mp H
          obtain ⟨t143, A1110, H⟩ := H
          replace H : (some (a0_0, t105, t143, x10_2, y113, true)) = some (r1, r2, r3, r4, r5, r6) := H
          have A111 := sA A1110
          clear A1110
          simp only [Option.some.injEq, Prod.mk.injEq] at H
          obtain ⟨rfl, rfl, rfl, rfl, rfl, rfl⟩ := H
          try go_wp2
          have n0_ := sA (Kd.R_drew HO_10.out)
          have n1_ := sA (Kd.R_drew HO_11.out)
          have n2_ := sA (Kd.R_drew HO_110000.out)
          have n3_ := sA (blk_drew BK101.out)
          have n4_ := sA (blk_drew BK102.out)
          have n5_ := sA (blk_drew BK109.out)
          have n6_ := sA (below_drew1 HB.out)
          clear HO_10
          clear HO_11
          clear HO_110000
          clear BK101
          clear BK102
          clear BK109
          clear HB
          have HO_10 := n0_
          have HO_11 := n1_
          have HO_110000 := n2_
          have BK101 := n3_
          have BK102 := n4_
          have BK109 := n5_
          have HB := n6_
          clear n0_ n1_ n2_ n3_ n4_ n5_ n6_
          refine start_ (n := 11) (S := fun w' => w'.cell? ⟨gb101, 0, none⟩ = some (.int .i64 a0_0) ∧ w'.cell? ⟨gb101, 1, none⟩ = some (.slice A0_1 l0_1.length c0_1) ∧ w'.cell? ⟨gb101, 2, none⟩ = some (.slice A0_2 l0_2.length c0_2) ∧ w'.cell? ⟨gb109, 0, none⟩ = some (.slice Ao26 t105.length co26)) (ds := []) (sM 11 0) (by kernel_rfl) rfl rfl ⟨sC BK101 0 rfl, sC BK101 1 rfl, sC BK101 2 rfl, sC BK109 0 rfl⟩ (fun hHeld => ?_); refine with_tabW impl_HearSpans.tab13 impl_HearSpans.bits13 (fun HT_ HW_ => ?_)
          generalize wr.drew = w112 at HO_10 HO_11 HO_110000 BK101 BK102 BK109 HB hHeld ⊢
          refine pure_ (i := 0) (N := some 60) (v := ?_) (a' := ?_) (sM 11 1) rfl rfl (any_of HT_.out (by kernel_rfl)) (fun _ _ _ h => h) (Or.inl ⟨by rfl, ?_⟩) ?_ ?_
          rotate_left
          ·intro w'
           go_simp
           with_reducible rfl
          rotate_left
          ·simp only [Act.put, sI, sZ, sV, i64_w, i32_w]
           rfl
          refine pure_ (i := 3) (N := some 63) (v := ?_) (a' := ?_) (sM 11 9) rfl rfl (any_of HT_.out (by kernel_rfl)) (fun _ _ _ h => h) (Or.inl ⟨by rfl, ?_⟩) ?_ ?_
          rotate_left
          ·intro w'
           go_simp
           with_reducible rfl
          rotate_left
          ·simp only [Act.put, sI, sZ, sV, i64_w, i32_w]
           rfl
          refine pure_ (i := 6) (N := some 66) (v := ?_) (a' := ?_) (sM 11 73) rfl rfl (any_of HT_.out (by kernel_rfl)) (fun _ _ _ h => h) (Or.inl ⟨by rfl, ?_⟩) ?_ ?_
          rotate_left
          ·intro w'
           go_simp
           with_reducible rfl
          rotate_left
          ·simp only [Act.put, sI, sZ, sV, i64_w, i32_w]
           rfl
          refine take_ (i := 1) (N := some 61) (v := ?_) (a' := ?_) (sM 11 75) rfl rfl (take_ofW HT_.out HW_.out (by kernel_rfl)) (fun _ _ _ h => h) (Or.inl ⟨by rfl, ?_⟩) hHeld ?_ ?_
          rotate_left
          ·rintro w' ⟨s0, s1, s2, s3⟩
           go_simp
           with_reducible rfl
          rotate_left
          ·simp only [Act.put, sI, sZ, sV, i64_w, i32_w]
           rfl
          refine take_ (i := 2) (N := some 62) (v := ?_) (a' := ?_) (sM 11 79) rfl rfl (take_ofW HT_.out HW_.out (by kernel_rfl)) (fun _ _ _ h => h) (Or.inl ⟨by rfl, ?_⟩) hHeld ?_ ?_
          rotate_left
          ·rintro w' ⟨s0, s1, s2, s3⟩
           go_simp
           with_reducible rfl
          rotate_left
          ·simp only [Act.put, sI, sZ, sV, i64_w, i32_w]
           rfl
          refine take_ (i := 4) (N := some 64) (v := ?_) (a' := ?_) (sM 11 95) rfl rfl (take_ofW HT_.out HW_.out (by kernel_rfl)) (fun _ _ _ h => h) (Or.inl ⟨by rfl, ?_⟩) hHeld ?_ ?_
          rotate_left
          ·rintro w' ⟨s0, s1, s2, s3⟩
           go_simp
           with_reducible rfl
          rotate_left
          ·simp only [Act.put, sI, sZ, sV, i64_w, i32_w]
           rfl
          refine join_ (σ := Value × Value × Nat) 1 (sM 11 1023) (fun s_ => [(65, s_.1), (67, s_.2.1), (13, .pointer (some ⟨s_.2.2, 0, none⟩)), (68, .agg #[.int .i64 a0_0, .slice Ao26 t105.length co26, s_.2.1])]) (fun s_ w' => (w'.cell? ⟨gb101, 0, none⟩ = some (.int .i64 a0_0) ∧ w'.cell? ⟨gb101, 1, none⟩ = some (.slice A0_1 l0_1.length c0_1) ∧ w'.cell? ⟨gb101, 2, none⟩ = some (.slice A0_2 l0_2.length c0_2) ∧ w'.cell? ⟨gb109, 0, none⟩ = some (.slice Ao26 t105.length co26)) ∧ (Kd.R (Kd.int .i64) 3 w' w.heap.size (fun k_ => some k_ ≠ (u10 : Value).ownBlock ∧ some k_ ≠ (v114 : Value).ownBlock) s_.2.1 t124) ∧ (Kd.R (Kd.int .i64) 3 w' w.heap.size (fun k_ => some k_ ≠ (s_.2.1 : Value).ownBlock ∧ some k_ ≠ (v114 : Value).ownBlock) u10 x10_2) ∧ (Kd.R (Kd.int .i64) 3 w' w.heap.size (fun k_ => some k_ ≠ (s_.2.1 : Value).ownBlock ∧ some k_ ≠ (u10 : Value).ownBlock) v114 y113) ∧ (Kd.R k59 59 w' w.heap.size (fun _ => True) (.slice Ao26 t105.length co26) t105) ∧ (w'.heap[gb101]? = some (.cells #[.int .i64 a0_0, .slice A0_1 l0_1.length c0_1, .slice A0_2 l0_2.length c0_2] 31 (0, 0))) ∧ (w'.heap[gb102]? = some (.cells #[.int .i64 0, .slice none 0 0, .slice none 0 0] 31 (0, 0))) ∧ (w'.heap[gb109]? = some (.cells #[.slice Ao26 t105.length co26] 29 (0, 0))) ∧ (w'.heap[s_.2.2]? = some (.cells #[.int .i64 0, .slice none 0 0, .slice none 0 0] 31 (0, 0))) ∧ (w.heap.size ≤ s_.2.2) ∧ (w.heap.size ≤ s_.2.2) ∧ (gb101 ≠ s_.2.2) ∧ (s_.2.2 ≠ gb101) ∧ (gb102 ≠ s_.2.2) ∧ (s_.2.2 ≠ gb102) ∧ (gb109 ≠ s_.2.2) ∧ (s_.2.2 ≠ gb109) ∧ (Below w.heap.size w w')) ?_ ?_
          rotate_left
          ·intro hCont
           refine two_ (i := 5) (j := 9) (Ni := some 65) (Nj := some 13) (sM 11 127) (sM 11 607) rfl rfl rfl rfl (two_of HT_.out (by kernel_rfl)) (by decide) (by decide) (fun K hK => ?_) (fun K hK => ?_)
           ·skip
            refine goes_ Try.func39 (by kernel_rfl) rfl #[.slice A0_2 l0_2.length c0_2] (by rfl) rfl rfl (by (try simp only [List.map_toArray, List.map_cons, List.map_nil]); first | done | rfl | (simp only [List.length_drop, List.length_take]; rfl)) ?_
            with_reducible refine (slices_Clone_int_int.calls _ _ l0_2 t121 _ ?side1 ?side2 A60.out).mono ?_
            (case side1 => repeat (first | exact (Kd.C_below HR0_2.out HB.out) | (with_reducible refine Kd.C_alloc ?_ _) | (with_reducible refine Kd.C_drewN ?_ _) | (with_reducible refine Kd.C_drew ?_)))
            (case side2 => exact HC0_2.out)
            rintro e w113 ⟨v122, rfl, ho0, hb⟩
            refine ⟨_, rfl, ?_⟩
            have n0_ := sA (Kd.R_elder' (sR HO_10.out) (Kd.R_base ho0) hb)
            have n1_ := sA (Kd.R_elder' (sR HO_11.out) (Kd.R_base ho0) hb)
            have n2_ := sA (Kd.R_below (sR HO_110000.out) hb)
            have n3_ := sA (Kd.R_lower (Kd.R_new' (Kd.R_new' ho0 (Kd.R_lt (sR HO_10.out))) (Kd.R_lt (sR HO_11.out))) (below_size (by repeat (first | (with_reducible first | exact HB.out | apply sLA | apply sLN | apply sLD | refine sLS ?_ (Aside0.out (by assumption))) | exact HB.out))))
            have n4_ := sA (blk_below (sB BK101.out) hb)
            have n5_ := sA (blk_below (sB BK102.out) hb)
            have n6_ := sA (blk_below (sB BK109.out) hb)
            have n7_ := sA (below_step (by repeat (first | (with_reducible first | exact HB.out | apply sLA | apply sLN | apply sLD | refine sLS ?_ (Aside0.out (by assumption))) | exact HB.out)) hb)
            clear HO_10
            clear HO_11
            clear HO_110000
            clear BK101
            clear BK102
            clear BK109
            clear HB
            have HO_10 := n0_
            have HO_11 := n1_
            have HO_110000 := n2_
            have HO123 := n3_
            have BK101 := n4_
            have BK102 := n5_
            have BK109 := n6_
            have HB := n7_
            clear n0_ n1_ n2_ n3_ n4_ n5_ n6_ n7_
            (try clear hb)
            (try clear hb2)
            (try clear hk)
            (try clear hi)
            (try clear ho0)
            obtain ⟨Ao114, co114, eo114⟩ := Kd.R_slice HO123.out
            (first | subst eo114 | (injection eo114 with f1_ f2_ f3_; have f4_ := f1_.symm; have f5_ := f3_.symm; clear f1_ f2_ f3_; subst f4_; subst f5_))
            refine hK.out _ _ ⟨sC BK101 0 rfl, sC BK101 1 rfl, sC BK101 2 rfl, sC BK109 0 rfl⟩ (fun hHeld => ?_)
            clear hK K
            refine norm_ (a' := ?_) ?_ ?_
            rotate_left
            ·show Act.put _ (some 65) _ = _
             simp only [Act.put, sI, sZ, sV, i64_w, i32_w]
             rfl
            refine two_ (i := 7) (j := 9) (Ni := some 67) (Nj := some 13) (sM 11 255) (sM 11 639) rfl rfl rfl rfl (two_of HT_.out (by kernel_rfl)) (by decide) (by decide) (fun K hK => ?_) (fun K hK => ?_)
            ·skip
             refine goes_ Try.func46 (by kernel_rfl) rfl #[.slice Ao114 t121.length co114, .func (.func 47) #[] #[.pointer (some ⟨gb109, 0, none⟩)]] (by rfl) rfl rfl (by (try simp only [List.map_toArray, List.map_cons, List.map_nil]); first | done | rfl | (simp only [List.length_drop, List.length_take]; rfl)) ?_
             with_reducible refine (slices_DeleteFunc_int_int.calls (fun k_ => some k_ = (.slice Ao114 t121.length co114 : Value).ownBlock) (.slice Ao114 t121.length co114) t121 Ao26 co26 t105 t124 w _ ?side1 ?side2 ?side3 ?side4 A61.out (B := gb109) ?sideI).mono ?_
             (case sideI => exact fun W_ hkp => (blk_cell (blk_kept (sB BK109.out) hkp (fun hs_ => (fun e_ => (Kd.R_ne HO123.out BK109.out (by decide)) e_) hs_)) 0).trans rfl)
             (case side1 => repeat (first | (with_reducible first | exact HB.out | apply sLA | apply sLN | apply sLD | refine sLS ?_ GE101.out | refine sLS ?_ GE102.out | refine sLS ?_ GE109.out) | exact HB.out))
             (case side2 => exact Kd.R_tight rfl HO123.out)
             (case side3 => exact Kd.C_kept_own ((Kd.R_apart' HO_110000.out (Kd.R_typed HO123.out) (by decide))) (fun k_ hk_ hs_ => (hk_.2) hs_))
             (case side4 => exact (Kd.R_reads' HO_110000.out).2.1)
             rintro e w115 ⟨v125, rfl, ho0, hb, hkp⟩
             refine ⟨_, rfl, ?_⟩
             have n0_ := sA (Kd.R_mono (ok' := fun k_ => some k_ ≠ (v114 : Value).ownBlock ∧ some k_ ≠ (v125 : Value).ownBlock) (Kd.R_keptB (HO_10.out) hkp (fun k_ hk_ hs_ => (hk_.2) hs_)) (fun k_ hk_ => ⟨hk_.1.1, fun e_ => Or.elim (ho0.1 k_ e_.symm) (fun hs_ => hk_.2.1 hs_) (fun hn_ => Nat.not_le.2 hk_.2.2 hn_)⟩))
             have n1_ := sA (Kd.R_mono (ok' := fun k_ => some k_ ≠ (u10 : Value).ownBlock ∧ some k_ ≠ (v125 : Value).ownBlock) (Kd.R_keptB (HO_11.out) hkp (fun k_ hk_ hs_ => (hk_.2) hs_)) (fun k_ hk_ => ⟨hk_.1.1, fun e_ => Or.elim (ho0.1 k_ e_.symm) (fun hs_ => hk_.2.1 hs_) (fun hn_ => Nat.not_le.2 hk_.2.2 hn_)⟩))
             have n2_ := sA (Kd.R_mono (ok' := fun k_ => True) (Kd.R_keptB ((Kd.R_apart' HO_110000.out (Kd.R_typed HO123.out) (by decide))) hkp (fun k_ hk_ hs_ => (hk_.2) hs_)) (fun k_ hk_ => trivial))
             have n3_ := sA (blk_kept (sB BK101.out) hkp (fun hs_ => (fun e_ => (Kd.R_ne HO123.out BK101.out (by decide)) e_) hs_))
             have n4_ := sA (blk_kept (sB BK102.out) hkp (fun hs_ => (fun e_ => (Kd.R_ne HO123.out BK102.out (by decide)) e_) hs_))
             have n5_ := sA (blk_kept (sB BK109.out) hkp (fun hs_ => (fun e_ => (Kd.R_ne HO123.out BK109.out (by decide)) e_) hs_))
             have n6_ := sA (Kd.R_mono (ok' := fun k_ => some k_ ≠ (u10 : Value).ownBlock ∧ some k_ ≠ (v114 : Value).ownBlock) ho0 (fun k_ hk_ => ⟨Or.elim hk_ (fun hs_ => fun e_ => (((HO_10.out).1 k_ e_.symm).2) hs_) (fun hn_ => (Kd.fresh' (Kd.R_lt (sR HO_10.out)) k_ hn_)), Or.elim hk_ (fun hs_ => fun e_ => (((HO_11.out).1 k_ e_.symm).2) hs_) (fun hn_ => (Kd.fresh' (Kd.R_lt (sR HO_11.out)) k_ hn_))⟩))
             have n7_ := sA (hb)
             clear HO_10
             clear HO_11
             clear HO_110000
             clear BK101
             clear BK102
             clear BK109
             clear HB
             clear HO123
             have HO_10 := n0_
             have HO_11 := n1_
             have HO_110000 := n2_
             have BK101 := n3_
             have BK102 := n4_
             have BK109 := n5_
             have HO126 := n6_
             have HB := n7_
             clear n0_ n1_ n2_ n3_ n4_ n5_ n6_ n7_
             (try clear hb)
             (try clear hkp)
             (try clear ho0)
             obtain ⟨Ao116, co116, eo116⟩ := Kd.R_slice HO126.out
             (first | subst eo116 | (injection eo116 with f1_ f2_ f3_; have f4_ := f1_.symm; have f5_ := f3_.symm; clear f1_ f2_ f3_; subst f4_; subst f5_))
             refine hK.out _ _ ⟨sC BK101 0 rfl, sC BK101 1 rfl, sC BK101 2 rfl, sC BK109 0 rfl⟩ (fun hHeld => ?_)
             clear hK K
             refine norm_ (a' := ?_) ?_ ?_
             rotate_left
             ·show Act.put _ (some 67) _ = _
              simp only [Act.put, sI, sZ, sV, i64_w, i32_w]
              rfl
             refine pure_ (i := 8) (N := some 68) (v := ?_) (a' := ?_) (sM 11 511) rfl rfl (any_of HT_.out (by kernel_rfl)) (fun _ _ _ h => h) (Or.inl ⟨by rfl, ?_⟩) ?_ ?_
             rotate_left
             ·intro w'
              go_simp
              with_reducible rfl
             rotate_left
             ·simp only [Act.put, sI, sZ, sV, i64_w, i32_w]
              rfl
             refine one_ (i := 9) (N := some 13) (sM 11 1023) rfl rfl (one_of HT_.out (by kernel_rfl)) (by decide) (fun K hK => ?_)
             refine box_step ?hg (N := 13) ?hd (cs := #[.int .i64 0, .slice none 0 0, .slice none 0 0]) (t := 31) ?hr ?_; (case hd => rfl); (case hg => rfl); (case hr => first | (go_simp; done) | (go_simp; rfl))
             intro gb127 hg w117 hbox hb
             have n0_ := sA (Kd.R_below (sR HO_10.out) hb)
             have n1_ := sA (Kd.R_below (sR HO_11.out) hb)
             have n2_ := sA (Kd.R_below (sR HO_110000.out) hb)
             have n3_ := sA (Kd.R_below (sR HO126.out) hb)
             have n4_ := sA (blk_below (sB BK101.out) hb)
             have n5_ := sA (blk_below (sB BK102.out) hb)
             have n6_ := sA (blk_below (sB BK109.out) hb)
             have n7_ := sA (below_step (by repeat (first | (with_reducible first | exact HB.out | apply sLA | apply sLN | apply sLD | refine sLS ?_ (Aside0.out (by assumption))) | exact HB.out)) hb)
             have n8_ := sA (hbox)
             have n9_ := sA ((by rw [hg]; exact (below_size (by repeat (first | (with_reducible first | exact HB.out | apply sLA | apply sLN | apply sLD | refine sLS ?_ (Aside0.out (by assumption))) | exact HB.out))) : w.heap.size ≤ gb127))
             have n10_ := sA ((by rw [hg]; exact (below_size (by repeat (first | (with_reducible first | exact HB.out | apply sLA | apply sLN | apply sLD | refine sLS ?_ (Aside0.out (by assumption))) | exact HB.out))) : w.heap.size ≤ gb127))
             have n11_ := sA ((by rw [hg]; exact Nat.ne_of_lt (blk_lt (sB BK101.out)) : gb101 ≠ gb127))
             have n12_ := sA ((by rw [hg]; exact Nat.ne_of_gt (blk_lt (sB BK101.out)) : gb127 ≠ gb101))
             have n13_ := sA ((by rw [hg]; exact Nat.ne_of_lt (blk_lt (sB BK102.out)) : gb102 ≠ gb127))
             have n14_ := sA ((by rw [hg]; exact Nat.ne_of_gt (blk_lt (sB BK102.out)) : gb127 ≠ gb102))
             have n15_ := sA ((by rw [hg]; exact Nat.ne_of_lt (blk_lt (sB BK109.out)) : gb109 ≠ gb127))
             have n16_ := sA ((by rw [hg]; exact Nat.ne_of_gt (blk_lt (sB BK109.out)) : gb127 ≠ gb109))
             clear HO_10
             clear HO_11
             clear HO_110000
             clear HO126
             clear BK101
             clear BK102
             clear BK109
             clear HB
             have HO_10 := n0_
             have HO_11 := n1_
             have HO_110000 := n2_
             have HO126 := n3_
             have BK101 := n4_
             have BK102 := n5_
             have BK109 := n6_
             have HB := n7_
             have BK127 := n8_
             have GW127 := n9_
             have GE127 := n10_
             have NB101_127 := n11_
             have NB127_101 := n12_
             have NB102_127 := n13_
             have NB127_102 := n14_
             have NB109_127 := n15_
             have NB127_109 := n16_
             clear n0_ n1_ n2_ n3_ n4_ n5_ n6_ n7_ n8_ n9_ n10_ n11_ n12_ n13_ n14_ n15_ n16_
             clear hb hbox hg
             refine hK.out _ _ ⟨sC BK101 0 rfl, sC BK101 1 rfl, sC BK101 2 rfl, sC BK109 0 rfl⟩ (fun hHeld => ?_)
             clear hK K
             refine norm_ (a' := ?_) ?_ ?_
             rotate_left
             ·show Act.put _ (some 13) _ = _
              simp only [Act.put, sI, sZ, sV, i64_w, i32_w]
              rfl
             exact norm_ (by simp only [putAll, Act.put, sI, sZ, sV]) (hCont (.slice Ao114 t121.length co114, .slice Ao116 t124.length co116, gb127) _ ⟨hHeld, (sR HO126.out), (sR (Kd.R_mono HO_10.out (fun _ hk => ⟨hk.2, hk.1⟩))), (sR (Kd.R_mono HO_11.out (fun _ hk => ⟨hk.2, hk.1⟩))), (sR HO_110000.out), (sB BK101.out), (sB BK102.out), (sB BK109.out), (sB BK127.out), GW127.out, GE127.out, NB101_127.out, NB127_101.out, NB102_127.out, NB127_102.out, NB109_127.out, NB127_109.out, (by repeat (first | (with_reducible first | exact HB.out | apply sLA | apply sLN | apply sLD | refine sLS ?_ (Aside0.out (by assumption))) | exact HB.out))⟩)
            ·skip
             refine box_step ?hg (N := 13) ?hd (cs := #[.int .i64 0, .slice none 0 0, .slice none 0 0]) (t := 31) ?hr ?_; (case hd => rfl); (case hg => rfl); (case hr => first | (go_simp; done) | (go_simp; rfl))
             intro gb127 hg w114 hbox hb
             have n0_ := sA (Kd.R_below (sR HO_10.out) hb)
             have n1_ := sA (Kd.R_below (sR HO_11.out) hb)
             have n2_ := sA (Kd.R_below (sR HO_110000.out) hb)
             have n3_ := sA (Kd.R_below (sR HO123.out) hb)
             have n4_ := sA (blk_below (sB BK101.out) hb)
             have n5_ := sA (blk_below (sB BK102.out) hb)
             have n6_ := sA (blk_below (sB BK109.out) hb)
             have n7_ := sA (below_step (by repeat (first | (with_reducible first | exact HB.out | apply sLA | apply sLN | apply sLD | refine sLS ?_ (Aside0.out (by assumption))) | exact HB.out)) hb)
             have n8_ := sA (hbox)
             have n9_ := sA ((by rw [hg]; exact (below_size (by repeat (first | (with_reducible first | exact HB.out | apply sLA | apply sLN | apply sLD | refine sLS ?_ (Aside0.out (by assumption))) | exact HB.out))) : w.heap.size ≤ gb127))
             have n10_ := sA ((by rw [hg]; exact (below_size (by repeat (first | (with_reducible first | exact HB.out | apply sLA | apply sLN | apply sLD | refine sLS ?_ (Aside0.out (by assumption))) | exact HB.out))) : w.heap.size ≤ gb127))
             have n11_ := sA ((by rw [hg]; exact Nat.ne_of_lt (blk_lt (sB BK101.out)) : gb101 ≠ gb127))
             have n12_ := sA ((by rw [hg]; exact Nat.ne_of_gt (blk_lt (sB BK101.out)) : gb127 ≠ gb101))
             have n13_ := sA ((by rw [hg]; exact Nat.ne_of_lt (blk_lt (sB BK102.out)) : gb102 ≠ gb127))
             have n14_ := sA ((by rw [hg]; exact Nat.ne_of_gt (blk_lt (sB BK102.out)) : gb127 ≠ gb102))
             have n15_ := sA ((by rw [hg]; exact Nat.ne_of_lt (blk_lt (sB BK109.out)) : gb109 ≠ gb127))
             have n16_ := sA ((by rw [hg]; exact Nat.ne_of_gt (blk_lt (sB BK109.out)) : gb127 ≠ gb109))
             clear HO_10
             clear HO_11
             clear HO_110000
             clear HO123
             clear BK101
             clear BK102
             clear BK109
             clear HB
             have HO_10 := n0_
             have HO_11 := n1_
             have HO_110000 := n2_
             have HO123 := n3_
             have BK101 := n4_
             have BK102 := n5_
             have BK109 := n6_
             have HB := n7_
             have BK127 := n8_
             have GW127 := n9_
             have GE127 := n10_
             have NB101_127 := n11_
             have NB127_101 := n12_
             have NB102_127 := n13_
             have NB127_102 := n14_
             have NB109_127 := n15_
             have NB127_109 := n16_
             clear n0_ n1_ n2_ n3_ n4_ n5_ n6_ n7_ n8_ n9_ n10_ n11_ n12_ n13_ n14_ n15_ n16_
             clear hb hbox hg
             obtain ⟨Ao115, co115, eo115⟩ := Kd.R_slice HO123.out
             (first | subst eo115 | (injection eo115 with f1_ f2_ f3_; have f4_ := f1_.symm; have f5_ := f3_.symm; clear f1_ f2_ f3_; subst f4_; subst f5_))
             refine hK.out _ _ ⟨sC BK101 0 rfl, sC BK101 1 rfl, sC BK101 2 rfl, sC BK109 0 rfl⟩ (fun hHeld => ?_)
             clear hK K
             refine norm_ (a' := ?_) ?_ ?_
             rotate_left
             ·show Act.put _ (some 13) _ = _
              simp only [Act.put, sI, sZ, sV, i64_w, i32_w]
              rfl
             refine one_ (i := 7) (N := some 67) (sM 11 767) rfl rfl (one_of HT_.out (by kernel_rfl)) (by decide) (fun K hK => ?_)
             refine goes_ Try.func46 (by kernel_rfl) rfl #[.slice Ao115 t121.length co115, .func (.func 47) #[] #[.pointer (some ⟨gb109, 0, none⟩)]] (by rfl) rfl rfl (by (try simp only [List.map_toArray, List.map_cons, List.map_nil]); first | done | rfl | (simp only [List.length_drop, List.length_take]; rfl)) ?_
             with_reducible refine (slices_DeleteFunc_int_int.calls (fun k_ => some k_ = (.slice Ao115 t121.length co115 : Value).ownBlock) (.slice Ao115 t121.length co115) t121 Ao26 co26 t105 t124 w _ ?side1 ?side2 ?side3 ?side4 A61.out (B := gb109) ?sideI).mono ?_
             (case sideI => exact fun W_ hkp => (blk_cell (blk_kept (sB BK109.out) hkp (fun hs_ => (fun e_ => (Kd.R_ne HO123.out BK109.out (by decide)) e_) hs_)) 0).trans rfl)
             (case side1 => repeat (first | (with_reducible first | exact HB.out | apply sLA | apply sLN | apply sLD | refine sLS ?_ GE101.out | refine sLS ?_ GE102.out | refine sLS ?_ GE109.out | refine sLS ?_ GE127.out) | exact HB.out))
             (case side2 => exact Kd.R_tight rfl HO123.out)
             (case side3 => exact Kd.C_kept_own ((Kd.R_apart' HO_110000.out (Kd.R_typed HO123.out) (by decide))) (fun k_ hk_ hs_ => (hk_.2) hs_))
             (case side4 => exact (Kd.R_reads' HO_110000.out).2.1)
             rintro e w116 ⟨v125, rfl, ho0, hb, hkp⟩
             refine ⟨_, rfl, ?_⟩
             have n0_ := sA (Kd.R_mono (ok' := fun k_ => some k_ ≠ (v114 : Value).ownBlock ∧ some k_ ≠ (v125 : Value).ownBlock) (Kd.R_keptB (HO_10.out) hkp (fun k_ hk_ hs_ => (hk_.2) hs_)) (fun k_ hk_ => ⟨hk_.1.1, fun e_ => Or.elim (ho0.1 k_ e_.symm) (fun hs_ => hk_.2.1 hs_) (fun hn_ => Nat.not_le.2 hk_.2.2 hn_)⟩))
             have n1_ := sA (Kd.R_mono (ok' := fun k_ => some k_ ≠ (u10 : Value).ownBlock ∧ some k_ ≠ (v125 : Value).ownBlock) (Kd.R_keptB (HO_11.out) hkp (fun k_ hk_ hs_ => (hk_.2) hs_)) (fun k_ hk_ => ⟨hk_.1.1, fun e_ => Or.elim (ho0.1 k_ e_.symm) (fun hs_ => hk_.2.1 hs_) (fun hn_ => Nat.not_le.2 hk_.2.2 hn_)⟩))
             have n2_ := sA (Kd.R_mono (ok' := fun k_ => True) (Kd.R_keptB ((Kd.R_apart' HO_110000.out (Kd.R_typed HO123.out) (by decide))) hkp (fun k_ hk_ hs_ => (hk_.2) hs_)) (fun k_ hk_ => trivial))
             have n3_ := sA (blk_kept (sB BK101.out) hkp (fun hs_ => (fun e_ => (Kd.R_ne HO123.out BK101.out (by decide)) e_) hs_))
             have n4_ := sA (blk_kept (sB BK102.out) hkp (fun hs_ => (fun e_ => (Kd.R_ne HO123.out BK102.out (by decide)) e_) hs_))
             have n5_ := sA (blk_kept (sB BK109.out) hkp (fun hs_ => (fun e_ => (Kd.R_ne HO123.out BK109.out (by decide)) e_) hs_))
             have n6_ := sA (blk_kept (sB BK127.out) hkp (fun hs_ => (fun e_ => (Kd.R_ne HO123.out BK127.out (by decide)) e_) hs_))
             have n7_ := sA (Kd.R_mono (ok' := fun k_ => some k_ ≠ (u10 : Value).ownBlock ∧ some k_ ≠ (v114 : Value).ownBlock) ho0 (fun k_ hk_ => ⟨Or.elim hk_ (fun hs_ => fun e_ => (((HO_10.out).1 k_ e_.symm).2) hs_) (fun hn_ => (Kd.fresh' (Kd.R_lt (sR HO_10.out)) k_ hn_)), Or.elim hk_ (fun hs_ => fun e_ => (((HO_11.out).1 k_ e_.symm).2) hs_) (fun hn_ => (Kd.fresh' (Kd.R_lt (sR HO_11.out)) k_ hn_))⟩))
             have n8_ := sA (hb)
             clear HO_10
             clear HO_11
             clear HO_110000
             clear BK101
             clear BK102
             clear BK109
             clear BK127
             clear HB
             clear HO123
             have HO_10 := n0_
             have HO_11 := n1_
             have HO_110000 := n2_
             have BK101 := n3_
             have BK102 := n4_
             have BK109 := n5_
             have BK127 := n6_
             have HO126 := n7_
             have HB := n8_
             clear n0_ n1_ n2_ n3_ n4_ n5_ n6_ n7_ n8_
             (try clear hb)
             (try clear hkp)
             (try clear ho0)
             obtain ⟨Ao117, co117, eo117⟩ := Kd.R_slice HO126.out
             (first | subst eo117 | (injection eo117 with f1_ f2_ f3_; have f4_ := f1_.symm; have f5_ := f3_.symm; clear f1_ f2_ f3_; subst f4_; subst f5_))
             refine hK.out _ _ ⟨sC BK101 0 rfl, sC BK101 1 rfl, sC BK101 2 rfl, sC BK109 0 rfl⟩ (fun hHeld => ?_)
             clear hK K
             refine norm_ (a' := ?_) ?_ ?_
             rotate_left
             ·show Act.put _ (some 67) _ = _
              simp only [Act.put, sI, sZ, sV, i64_w, i32_w]
              rfl
             refine pure_ (i := 8) (N := some 68) (v := ?_) (a' := ?_) (sM 11 1023) rfl rfl (any_of HT_.out (by kernel_rfl)) (fun _ _ _ h => h) (Or.inl ⟨by rfl, ?_⟩) ?_ ?_
             rotate_left
             ·intro w'
              go_simp
              with_reducible rfl
             rotate_left
             ·simp only [Act.put, sI, sZ, sV, i64_w, i32_w]
              rfl
             exact norm_ (by simp only [putAll, Act.put, sI, sZ, sV]) (hCont (.slice Ao115 t121.length co115, .slice Ao117 t124.length co117, gb127) _ ⟨hHeld, (sR HO126.out), (sR (Kd.R_mono HO_10.out (fun _ hk => ⟨hk.2, hk.1⟩))), (sR (Kd.R_mono HO_11.out (fun _ hk => ⟨hk.2, hk.1⟩))), (sR HO_110000.out), (sB BK101.out), (sB BK102.out), (sB BK109.out), (sB BK127.out), GW127.out, GE127.out, NB101_127.out, NB127_101.out, NB102_127.out, NB127_102.out, NB109_127.out, NB127_109.out, (by repeat (first | (with_reducible first | exact HB.out | apply sLA | apply sLN | apply sLD | refine sLS ?_ (Aside0.out (by assumption))) | exact HB.out))⟩)
           ·skip
            refine box_step ?hg (N := 13) ?hd (cs := #[.int .i64 0, .slice none 0 0, .slice none 0 0]) (t := 31) ?hr ?_; (case hd => rfl); (case hg => rfl); (case hr => first | (go_simp; done) | (go_simp; rfl))
            intro gb127 hg w113 hbox hb
            have n0_ := sA (Kd.R_below (sR HO_10.out) hb)
            have n1_ := sA (Kd.R_below (sR HO_11.out) hb)
            have n2_ := sA (Kd.R_below (sR HO_110000.out) hb)
            have n3_ := sA (blk_below (sB BK101.out) hb)
            have n4_ := sA (blk_below (sB BK102.out) hb)
            have n5_ := sA (blk_below (sB BK109.out) hb)
            have n6_ := sA (below_step (by repeat (first | (with_reducible first | exact HB.out | apply sLA | apply sLN | apply sLD | refine sLS ?_ (Aside0.out (by assumption))) | exact HB.out)) hb)
            have n7_ := sA (hbox)
            have n8_ := sA ((by rw [hg]; exact (below_size (by repeat (first | (with_reducible first | exact HB.out | apply sLA | apply sLN | apply sLD | refine sLS ?_ (Aside0.out (by assumption))) | exact HB.out))) : w.heap.size ≤ gb127))
            have n9_ := sA ((by rw [hg]; exact (below_size (by repeat (first | (with_reducible first | exact HB.out | apply sLA | apply sLN | apply sLD | refine sLS ?_ (Aside0.out (by assumption))) | exact HB.out))) : w.heap.size ≤ gb127))
            have n10_ := sA ((by rw [hg]; exact Nat.ne_of_lt (blk_lt (sB BK101.out)) : gb101 ≠ gb127))
            have n11_ := sA ((by rw [hg]; exact Nat.ne_of_gt (blk_lt (sB BK101.out)) : gb127 ≠ gb101))
            have n12_ := sA ((by rw [hg]; exact Nat.ne_of_lt (blk_lt (sB BK102.out)) : gb102 ≠ gb127))
            have n13_ := sA ((by rw [hg]; exact Nat.ne_of_gt (blk_lt (sB BK102.out)) : gb127 ≠ gb102))
            have n14_ := sA ((by rw [hg]; exact Nat.ne_of_lt (blk_lt (sB BK109.out)) : gb109 ≠ gb127))
            have n15_ := sA ((by rw [hg]; exact Nat.ne_of_gt (blk_lt (sB BK109.out)) : gb127 ≠ gb109))
            clear HO_10
            clear HO_11
            clear HO_110000
            clear BK101
            clear BK102
            clear BK109
            clear HB
            have HO_10 := n0_
            have HO_11 := n1_
            have HO_110000 := n2_
            have BK101 := n3_
            have BK102 := n4_
            have BK109 := n5_
            have HB := n6_
            have BK127 := n7_
            have GW127 := n8_
            have GE127 := n9_
            have NB101_127 := n10_
            have NB127_101 := n11_
            have NB102_127 := n12_
            have NB127_102 := n13_
            have NB109_127 := n14_
            have NB127_109 := n15_
            clear n0_ n1_ n2_ n3_ n4_ n5_ n6_ n7_ n8_ n9_ n10_ n11_ n12_ n13_ n14_ n15_
            clear hb hbox hg
            refine hK.out _ _ ⟨sC BK101 0 rfl, sC BK101 1 rfl, sC BK101 2 rfl, sC BK109 0 rfl⟩ (fun hHeld => ?_)
            clear hK K
            refine norm_ (a' := ?_) ?_ ?_
            rotate_left
            ·show Act.put _ (some 13) _ = _
             simp only [Act.put, sI, sZ, sV, i64_w, i32_w]
             rfl
            refine one_ (i := 5) (N := some 65) (sM 11 639) rfl rfl (one_of HT_.out (by kernel_rfl)) (by decide) (fun K hK => ?_)
            refine goes_ Try.func39 (by kernel_rfl) rfl #[.slice A0_2 l0_2.length c0_2] (by rfl) rfl rfl (by (try simp only [List.map_toArray, List.map_cons, List.map_nil]); first | done | rfl | (simp only [List.length_drop, List.length_take]; rfl)) ?_
            with_reducible refine (slices_Clone_int_int.calls _ _ l0_2 t121 _ ?side1 ?side2 A60.out).mono ?_
            (case side1 => repeat (first | exact (Kd.C_below HR0_2.out HB.out) | (with_reducible refine Kd.C_alloc ?_ _) | (with_reducible refine Kd.C_drewN ?_ _) | (with_reducible refine Kd.C_drew ?_)))
            (case side2 => exact HC0_2.out)
            rintro e w114 ⟨v122, rfl, ho0, hb⟩
            refine ⟨_, rfl, ?_⟩
            have n0_ := sA (Kd.R_elder' (sR HO_10.out) (Kd.R_base ho0) hb)
            have n1_ := sA (Kd.R_elder' (sR HO_11.out) (Kd.R_base ho0) hb)
            have n2_ := sA (Kd.R_below (sR HO_110000.out) hb)
            have n3_ := sA (Kd.R_lower (Kd.R_new' (Kd.R_new' ho0 (Kd.R_lt (sR HO_10.out))) (Kd.R_lt (sR HO_11.out))) (below_size (by repeat (first | (with_reducible first | exact HB.out | apply sLA | apply sLN | apply sLD | refine sLS ?_ (Aside0.out (by assumption))) | exact HB.out))))
            have n4_ := sA (blk_below (sB BK101.out) hb)
            have n5_ := sA (blk_below (sB BK102.out) hb)
            have n6_ := sA (blk_below (sB BK109.out) hb)
            have n7_ := sA (blk_below (sB BK127.out) hb)
            have n8_ := sA (below_step (by repeat (first | (with_reducible first | exact HB.out | apply sLA | apply sLN | apply sLD | refine sLS ?_ (Aside0.out (by assumption))) | exact HB.out)) hb)
            clear HO_10
            clear HO_11
            clear HO_110000
            clear BK101
            clear BK102
            clear BK109
            clear BK127
            clear HB
            have HO_10 := n0_
            have HO_11 := n1_
            have HO_110000 := n2_
            have HO123 := n3_
            have BK101 := n4_
            have BK102 := n5_
            have BK109 := n6_
            have BK127 := n7_
            have HB := n8_
            clear n0_ n1_ n2_ n3_ n4_ n5_ n6_ n7_ n8_
            (try clear hb)
            (try clear hb2)
            (try clear hk)
            (try clear hi)
            (try clear ho0)
            obtain ⟨Ao115, co115, eo115⟩ := Kd.R_slice HO123.out
            (first | subst eo115 | (injection eo115 with f1_ f2_ f3_; have f4_ := f1_.symm; have f5_ := f3_.symm; clear f1_ f2_ f3_; subst f4_; subst f5_))
            refine hK.out _ _ ⟨sC BK101 0 rfl, sC BK101 1 rfl, sC BK101 2 rfl, sC BK109 0 rfl⟩ (fun hHeld => ?_)
            clear hK K
            refine norm_ (a' := ?_) ?_ ?_
            rotate_left
            ·show Act.put _ (some 65) _ = _
             simp only [Act.put, sI, sZ, sV, i64_w, i32_w]
             rfl
            refine one_ (i := 7) (N := some 67) (sM 11 767) rfl rfl (one_of HT_.out (by kernel_rfl)) (by decide) (fun K hK => ?_)
            refine goes_ Try.func46 (by kernel_rfl) rfl #[.slice Ao115 t121.length co115, .func (.func 47) #[] #[.pointer (some ⟨gb109, 0, none⟩)]] (by rfl) rfl rfl (by (try simp only [List.map_toArray, List.map_cons, List.map_nil]); first | done | rfl | (simp only [List.length_drop, List.length_take]; rfl)) ?_
            with_reducible refine (slices_DeleteFunc_int_int.calls (fun k_ => some k_ = (.slice Ao115 t121.length co115 : Value).ownBlock) (.slice Ao115 t121.length co115) t121 Ao26 co26 t105 t124 w _ ?side1 ?side2 ?side3 ?side4 A61.out (B := gb109) ?sideI).mono ?_
            (case sideI => exact fun W_ hkp => (blk_cell (blk_kept (sB BK109.out) hkp (fun hs_ => (fun e_ => (Kd.R_ne HO123.out BK109.out (by decide)) e_) hs_)) 0).trans rfl)
            (case side1 => repeat (first | (with_reducible first | exact HB.out | apply sLA | apply sLN | apply sLD | refine sLS ?_ GE101.out | refine sLS ?_ GE102.out | refine sLS ?_ GE109.out | refine sLS ?_ GE127.out) | exact HB.out))
            (case side2 => exact Kd.R_tight rfl HO123.out)
            (case side3 => exact Kd.C_kept_own ((Kd.R_apart' HO_110000.out (Kd.R_typed HO123.out) (by decide))) (fun k_ hk_ hs_ => (hk_.2) hs_))
            (case side4 => exact (Kd.R_reads' HO_110000.out).2.1)
            rintro e w116 ⟨v125, rfl, ho0, hb, hkp⟩
            refine ⟨_, rfl, ?_⟩
            have n0_ := sA (Kd.R_mono (ok' := fun k_ => some k_ ≠ (v114 : Value).ownBlock ∧ some k_ ≠ (v125 : Value).ownBlock) (Kd.R_keptB (HO_10.out) hkp (fun k_ hk_ hs_ => (hk_.2) hs_)) (fun k_ hk_ => ⟨hk_.1.1, fun e_ => Or.elim (ho0.1 k_ e_.symm) (fun hs_ => hk_.2.1 hs_) (fun hn_ => Nat.not_le.2 hk_.2.2 hn_)⟩))
            have n1_ := sA (Kd.R_mono (ok' := fun k_ => some k_ ≠ (u10 : Value).ownBlock ∧ some k_ ≠ (v125 : Value).ownBlock) (Kd.R_keptB (HO_11.out) hkp (fun k_ hk_ hs_ => (hk_.2) hs_)) (fun k_ hk_ => ⟨hk_.1.1, fun e_ => Or.elim (ho0.1 k_ e_.symm) (fun hs_ => hk_.2.1 hs_) (fun hn_ => Nat.not_le.2 hk_.2.2 hn_)⟩))
            have n2_ := sA (Kd.R_mono (ok' := fun k_ => True) (Kd.R_keptB ((Kd.R_apart' HO_110000.out (Kd.R_typed HO123.out) (by decide))) hkp (fun k_ hk_ hs_ => (hk_.2) hs_)) (fun k_ hk_ => trivial))
            have n3_ := sA (blk_kept (sB BK101.out) hkp (fun hs_ => (fun e_ => (Kd.R_ne HO123.out BK101.out (by decide)) e_) hs_))
            have n4_ := sA (blk_kept (sB BK102.out) hkp (fun hs_ => (fun e_ => (Kd.R_ne HO123.out BK102.out (by decide)) e_) hs_))
            have n5_ := sA (blk_kept (sB BK109.out) hkp (fun hs_ => (fun e_ => (Kd.R_ne HO123.out BK109.out (by decide)) e_) hs_))
            have n6_ := sA (blk_kept (sB BK127.out) hkp (fun hs_ => (fun e_ => (Kd.R_ne HO123.out BK127.out (by decide)) e_) hs_))
            have n7_ := sA (Kd.R_mono (ok' := fun k_ => some k_ ≠ (u10 : Value).ownBlock ∧ some k_ ≠ (v114 : Value).ownBlock) ho0 (fun k_ hk_ => ⟨Or.elim hk_ (fun hs_ => fun e_ => (((HO_10.out).1 k_ e_.symm).2) hs_) (fun hn_ => (Kd.fresh' (Kd.R_lt (sR HO_10.out)) k_ hn_)), Or.elim hk_ (fun hs_ => fun e_ => (((HO_11.out).1 k_ e_.symm).2) hs_) (fun hn_ => (Kd.fresh' (Kd.R_lt (sR HO_11.out)) k_ hn_))⟩))
            have n8_ := sA (hb)
            clear HO_10
            clear HO_11
            clear HO_110000
            clear BK101
            clear BK102
            clear BK109
            clear BK127
            clear HB
            clear HO123
            have HO_10 := n0_
            have HO_11 := n1_
            have HO_110000 := n2_
            have BK101 := n3_
            have BK102 := n4_
            have BK109 := n5_
            have BK127 := n6_
            have HO126 := n7_
            have HB := n8_
            clear n0_ n1_ n2_ n3_ n4_ n5_ n6_ n7_ n8_
            (try clear hb)
            (try clear hkp)
            (try clear ho0)
            obtain ⟨Ao117, co117, eo117⟩ := Kd.R_slice HO126.out
            (first | subst eo117 | (injection eo117 with f1_ f2_ f3_; have f4_ := f1_.symm; have f5_ := f3_.symm; clear f1_ f2_ f3_; subst f4_; subst f5_))
            refine hK.out _ _ ⟨sC BK101 0 rfl, sC BK101 1 rfl, sC BK101 2 rfl, sC BK109 0 rfl⟩ (fun hHeld => ?_)
            clear hK K
            refine norm_ (a' := ?_) ?_ ?_
            rotate_left
            ·show Act.put _ (some 67) _ = _
             simp only [Act.put, sI, sZ, sV, i64_w, i32_w]
             rfl
            refine pure_ (i := 8) (N := some 68) (v := ?_) (a' := ?_) (sM 11 1023) rfl rfl (any_of HT_.out (by kernel_rfl)) (fun _ _ _ h => h) (Or.inl ⟨by rfl, ?_⟩) ?_ ?_
            rotate_left
            ·intro w'
             go_simp
             with_reducible rfl
            rotate_left
            ·simp only [Act.put, sI, sZ, sV, i64_w, i32_w]
             rfl
            exact norm_ (by simp only [putAll, Act.put, sI, sZ, sV]) (hCont (.slice Ao115 t121.length co115, .slice Ao117 t124.length co117, gb127) _ ⟨hHeld, (sR HO126.out), (sR (Kd.R_mono HO_10.out (fun _ hk => ⟨hk.2, hk.1⟩))), (sR (Kd.R_mono HO_11.out (fun _ hk => ⟨hk.2, hk.1⟩))), (sR HO_110000.out), (sB BK101.out), (sB BK102.out), (sB BK109.out), (sB BK127.out), GW127.out, GE127.out, NB101_127.out, NB127_101.out, NB102_127.out, NB127_102.out, NB109_127.out, NB127_109.out, (by repeat (first | (with_reducible first | exact HB.out | apply sLA | apply sLN | apply sLD | refine sLS ?_ (Aside0.out (by assumption))) | exact HB.out))⟩)
          rintro ⟨v122, v125, gb127⟩ w118 ⟨hS_, h0_, h1_, h2_, h3_, h4_, h5_, h6_, h7_, h8_, h9_, h10_, h11_, h12_, h13_, h14_, h15_, h16_⟩
          have n0_ : Aside0 (Kd.R (Kd.int .i64) 3 w118 w.heap.size (fun k_ => some k_ ≠ (u10 : Value).ownBlock ∧ some k_ ≠ (v114 : Value).ownBlock) v125 t124) := ⟨h0_⟩
          have n1_ : Aside0 (Kd.R (Kd.int .i64) 3 w118 w.heap.size (fun k_ => some k_ ≠ (v125 : Value).ownBlock ∧ some k_ ≠ (v114 : Value).ownBlock) u10 x10_2) := ⟨h1_⟩
          have n2_ : Aside0 (Kd.R (Kd.int .i64) 3 w118 w.heap.size (fun k_ => some k_ ≠ (v125 : Value).ownBlock ∧ some k_ ≠ (u10 : Value).ownBlock) v114 y113) := ⟨h2_⟩
          have n3_ : Aside0 (Kd.R k59 59 w118 w.heap.size (fun _ => True) (.slice Ao26 t105.length co26) t105) := ⟨h3_⟩
          have n4_ : Aside0 (w118.heap[gb101]? = some (.cells #[.int .i64 a0_0, .slice A0_1 l0_1.length c0_1, .slice A0_2 l0_2.length c0_2] 31 (0, 0))) := ⟨h4_⟩
          have n5_ : Aside0 (w118.heap[gb102]? = some (.cells #[.int .i64 0, .slice none 0 0, .slice none 0 0] 31 (0, 0))) := ⟨h5_⟩
          have n6_ : Aside0 (w118.heap[gb109]? = some (.cells #[.slice Ao26 t105.length co26] 29 (0, 0))) := ⟨h6_⟩
          have n7_ : Aside0 (w118.heap[gb127]? = some (.cells #[.int .i64 0, .slice none 0 0, .slice none 0 0] 31 (0, 0))) := ⟨h7_⟩
          have n8_ : Aside0 (w.heap.size ≤ gb127) := ⟨h8_⟩
          have n9_ : Aside0 (w.heap.size ≤ gb127) := ⟨h9_⟩
          have n10_ : Aside0 (gb101 ≠ gb127) := ⟨h10_⟩
          have n11_ : Aside0 (gb127 ≠ gb101) := ⟨h11_⟩
          have n12_ : Aside0 (gb102 ≠ gb127) := ⟨h12_⟩
          have n13_ : Aside0 (gb127 ≠ gb102) := ⟨h13_⟩
          have n14_ : Aside0 (gb109 ≠ gb127) := ⟨h14_⟩
          have n15_ : Aside0 (gb127 ≠ gb109) := ⟨h15_⟩
          have n16_ : Aside0 (Below w.heap.size w w118) := ⟨h16_⟩
          clear HO_10
          clear HO_11
          clear HO_110000
          clear BK101
          clear BK102
          clear BK109
          clear HB
          clear h0_ h1_ h2_ h3_ h4_ h5_ h6_ h7_ h8_ h9_ h10_ h11_ h12_ h13_ h14_ h15_ h16_
          have HO126 := n0_
          have HO_10 := n1_
          have HO_11 := n2_
          have HO_110000 := n3_
          have BK101 := n4_
          have BK102 := n5_
          have BK109 := n6_
          have BK127 := n7_
          have GW127 := n8_
          have GE127 := n9_
          have NB101_127 := n10_
          have NB127_101 := n11_
          have NB102_127 := n12_
          have NB127_102 := n13_
          have NB109_127 := n14_
          have NB127_109 := n15_
          have HB := n16_
          clear n0_ n1_ n2_ n3_ n4_ n5_ n6_ n7_ n8_ n9_ n10_ n11_ n12_ n13_ n14_ n15_ n16_
          have hHeld : w118.cell? ⟨gb101, 0, none⟩ = some (.int .i64 a0_0) ∧ w118.cell? ⟨gb101, 1, none⟩ = some (.slice A0_1 l0_1.length c0_1) ∧ w118.cell? ⟨gb101, 2, none⟩ = some (.slice A0_2 l0_2.length c0_2) ∧ w118.cell? ⟨gb109, 0, none⟩ = some (.slice Ao26 t105.length co26) := hS_
          obtain ⟨Ao119, co119, eo119⟩ := Kd.R_slice HO126.out
          (first | subst eo119 | (injection eo119 with f1_ f2_ f3_; have f4_ := f1_.symm; have f5_ := f3_.symm; clear f1_ f2_ f3_; subst f4_; subst f5_))
          refine norm_ (a' := ?_) ?_ ?_
          rotate_left
          ·simp only [putAll, Act.put, sI, sZ, sV]
           rfl
          refine one_ (i := 10) (N := none) (sM 11 2047) rfl rfl (one_of HT_.out (by kernel_rfl)) (by decide) (fun K hK => ?_)
          have hs120 : w118.cell? ⟨gb127, 0, none⟩ = some (.int .i64 0) := sC BK127 0 rfl
          have hfs120 := blk_frozen BK127.out 0
          have hns120_0 := NB101_127.out
          have hns120_1 := NB102_127.out
          have hns120_2 := NB109_127.out
          have hms120_0 := NB127_101.out
          have hms120_1 := NB127_102.out
          have hms120_2 := NB127_109.out
          have hs121 : w118.cell? ⟨gb127, 1, none⟩ = some (.slice none 0 0) := sC BK127 1 rfl
          have hfs121 := blk_frozen BK127.out 1
          have hns121_0 := NB101_127.out
          have hns121_1 := NB102_127.out
          have hns121_2 := NB109_127.out
          have hms121_0 := NB127_101.out
          have hms121_1 := NB127_102.out
          have hms121_2 := NB127_109.out
          have hs122 : w118.cell? ⟨gb127, 2, none⟩ = some (.slice none 0 0) := sC BK127 2 rfl
          have hfs122 := blk_frozen BK127.out 2
          have hns122_0 := NB101_127.out
          have hns122_1 := NB102_127.out
          have hns122_2 := NB109_127.out
          have hms122_0 := NB127_101.out
          have hms122_1 := NB127_102.out
          have hms122_2 := NB127_109.out
          refine skip_ (w1 := ?_) (by rfl) rfl ?_ ?_
          rotate_left
          ·go_simp
           rfl
          refine hK.out _ _ ⟨((cell_far (p := ⟨gb127, _, none⟩) NB101_127.out _).trans (((cell_far (p := ⟨gb127, _, none⟩) NB101_127.out _).trans (((cell_far (p := ⟨gb127, _, none⟩) NB101_127.out _).trans (hHeld.1)))))), ((cell_far (p := ⟨gb127, _, none⟩) NB101_127.out _).trans (((cell_far (p := ⟨gb127, _, none⟩) NB101_127.out _).trans (((cell_far (p := ⟨gb127, _, none⟩) NB101_127.out _).trans (hHeld.2.1)))))), ((cell_far (p := ⟨gb127, _, none⟩) NB101_127.out _).trans (((cell_far (p := ⟨gb127, _, none⟩) NB101_127.out _).trans (((cell_far (p := ⟨gb127, _, none⟩) NB101_127.out _).trans (hHeld.2.2.1)))))), ((cell_far (p := ⟨gb127, _, none⟩) NB109_127.out _).trans (((cell_far (p := ⟨gb127, _, none⟩) NB109_127.out _).trans (((cell_far (p := ⟨gb127, _, none⟩) NB109_127.out _).trans (hHeld.2.2.2))))))⟩ (fun hHeld => ?_)
          clear hK K
          refine done_ (done_of HT_.out (by kernel_rfl)) ?_
          have hnb123 := NB109_101.out
          have hnc123 := NB101_109.out
          have hnb124 := NB109_102.out
          have hnc124 := NB102_109.out
          have hnb125 := NB109_127.out
          have hnc125 := NB127_109.out
          have hcz126_0 : w118.cell? ⟨gb109, 0, none⟩ = some (.slice Ao26 t105.length co26) := sC BK109 0 rfl
          have hfz126_0 := blk_frozen BK109.out 0
          have hnb127 := NB127_101.out
          have hnc127 := NB101_127.out
          have hnb128 := NB127_102.out
          have hnc128 := NB102_127.out
          have hcz129_0 : w118.cell? ⟨gb127, 0, none⟩ = some (.int .i64 0) := sC BK127 0 rfl
          have hcz129_1 : w118.cell? ⟨gb127, 1, none⟩ = some (.slice none 0 0) := sC BK127 1 rfl
          have hcz129_2 : w118.cell? ⟨gb127, 2, none⟩ = some (.slice none 0 0) := sC BK127 2 rfl
          have hfz129_0 := blk_frozen BK127.out 0
          have hfz129_1 := blk_frozen BK127.out 1
          have hfz129_2 := blk_frozen BK127.out 2
          obtain ⟨Ao131, co131, eo131⟩ := Kd.R_slice HO_11.out
          subst eo131
          try go_wp2_with (first | ((with_reducible refine gate_builtin (b := .append) (xs := #[.tmp 96, .tmp 97]) rfl ?_); at_builtin; refine Kd.R_append_rows (Kd.int .i64) (w0 := w) w.heap.size rfl (.tmp 96) (.tmp 97) 23 3 (.int .i64 0) 8 rfl Try.underlying23 info3 rfl (by decide) (by omega) (.slice Ao119 t124.length co119) t124 y113 _ _ _ (fun k_ => some k_ ≠ (u10 : Value).ownBlock ∧ some k_ ≠ (.slice Ao131 y113.length co131 : Value).ownBlock) (fun _ => False) rfl rfl ?aO ?aR (fun _ _ h => h) (fun _ h => h.elim) ?aF ?aB ?aS ?aL ?_; (case aR => refine (Kd.R_reads' (e := 3) (base := w.heap.size) (ok := fun k_ => (some k_ ≠ (.slice Ao119 t124.length co119 : Value).ownBlock ∧ some k_ ≠ (u10 : Value).ownBlock)) (n := y113.length) (c := co131) ?_).2.2; exact (sR (Kd.R_mono (Kd.R_far (p := ⟨gb127, 2, none⟩) (Kd.R_far (p := ⟨gb127, 1, none⟩) (Kd.R_far (p := ⟨gb127, 0, none⟩) (Kd.R_types HO_11.out BK127.out (by decide)) (fun _ hk => hk.2) (.int .i64 a0_0)) (fun _ hk => hk.2) (.slice Ao26 t105.length co26)) (fun _ hk => hk.2) (.slice Ao119 t124.length co119)) (fun _ h_ => h_.1)))); (case aB => exact (by repeat (first | (with_reducible first | exact HB.out | apply sLA | apply sLN | apply sLD | refine sLS ?_ (Aside0.out (by assumption))) | exact HB.out))); (case aF => exact (fun k_ hk => ⟨Kd.fresh' (Kd.R_lt (sR (Kd.R_mono (Kd.R_far (p := ⟨gb127, 2, none⟩) (Kd.R_far (p := ⟨gb127, 1, none⟩) (Kd.R_far (p := ⟨gb127, 0, none⟩) (Kd.R_types HO_10.out BK127.out (by decide)) (fun _ hk => hk.2) (.int .i64 a0_0)) (fun _ hk => hk.2) (.slice Ao26 t105.length co26)) (fun _ hk => hk.2) (.slice Ao119 t124.length co119)) (fun _ h_ => h_.1)))) k_ hk, Kd.fresh' (Kd.R_lt (sR (Kd.R_mono (Kd.R_far (p := ⟨gb127, 2, none⟩) (Kd.R_far (p := ⟨gb127, 1, none⟩) (Kd.R_far (p := ⟨gb127, 0, none⟩) (Kd.R_types HO_11.out BK127.out (by decide)) (fun _ hk => hk.2) (.int .i64 a0_0)) (fun _ hk => hk.2) (.slice Ao26 t105.length co26)) (fun _ hk => hk.2) (.slice Ao119 t124.length co119)) (fun _ h_ => h_.1)))) k_ hk⟩)); (case aO => exact (sR (Kd.R_mono (Kd.R_far (p := ⟨gb127, 2, none⟩) (Kd.R_far (p := ⟨gb127, 1, none⟩) (Kd.R_far (p := ⟨gb127, 0, none⟩) (Kd.R_types HO126.out BK127.out (by decide)) (fun _ hk => hk.2) (.int .i64 a0_0)) (fun _ hk => hk.2) (.slice Ao26 t105.length co26)) (fun _ hk => hk.2) (.slice Ao119 t124.length co119)) (fun _ hk => ⟨hk.1.1, hk.1.2⟩)))); (case aS => exact (below_size (by repeat (first | (with_reducible first | exact HB.out | apply sLA | apply sLN | apply sLD | refine sLS ?_ (Aside0.out (by assumption))) | exact HB.out)))); (case aL => have := LMc110.out; omega); intro v141 w130 ho hb hg hat; rw [← Ny140.out] at ho; have n0_ := sA (Kd.R_after (ok := (fun k_ => some k_ ≠ (.slice Ao131 y113.length co131 : Value).ownBlock)) (sR (Kd.R_mono (Kd.R_far (p := ⟨gb127, 2, none⟩) (Kd.R_far (p := ⟨gb127, 1, none⟩) (Kd.R_far (p := ⟨gb127, 0, none⟩) (Kd.R_types HO_10.out BK127.out (by decide)) (fun _ hk => hk.2) (.int .i64 a0_0)) (fun _ hk => hk.2) (.slice Ao26 t105.length co26)) (fun _ hk => hk.2) (.slice Ao119 t124.length co119)) (fun _ hk => ⟨hk.1.2, hk.1.1⟩))) hg hat); have n1_ := sA (Kd.R_after (ok := (fun k_ => some k_ ≠ (u10 : Value).ownBlock)) (sR (Kd.R_mono (Kd.R_far (p := ⟨gb127, 2, none⟩) (Kd.R_far (p := ⟨gb127, 1, none⟩) (Kd.R_far (p := ⟨gb127, 0, none⟩) (Kd.R_types HO_11.out BK127.out (by decide)) (fun _ hk => hk.2) (.int .i64 a0_0)) (fun _ hk => hk.2) (.slice Ao26 t105.length co26)) (fun _ hk => hk.2) (.slice Ao119 t124.length co119)) (fun _ hk => ⟨hk.1.2, hk.1.1⟩))) hg hat); have n2_ := sA (Kd.R_over' (sR (Kd.R_mono (Kd.R_far (p := ⟨gb127, 2, none⟩) (Kd.R_far (p := ⟨gb127, 1, none⟩) (Kd.R_far (p := ⟨gb127, 0, none⟩) (Kd.R_types HO_110000.out BK127.out (by decide)) (fun _ hk => hk.2) (.int .i64 a0_0)) (fun _ hk => hk.2) (.slice Ao26 t105.length co26)) (fun _ hk => hk.2) (.slice Ao119 t124.length co119)) (fun _ h_ => h_.1))) (Kd.R_typed (sR (Kd.R_mono (Kd.R_far (p := ⟨gb127, 2, none⟩) (Kd.R_far (p := ⟨gb127, 1, none⟩) (Kd.R_far (p := ⟨gb127, 0, none⟩) (Kd.R_types HO126.out BK127.out (by decide)) (fun _ hk => hk.2) (.int .i64 a0_0)) (fun _ hk => hk.2) (.slice Ao26 t105.length co26)) (fun _ hk => hk.2) (.slice Ao119 t124.length co119)) (fun _ h_ => h_.1)))) (by decide) hg); have n3_ := sA (blk_grown (g := gb101) (o := .cells #[.int .i64 a0_0, .slice A0_1 l0_1.length c0_1, .slice A0_2 l0_2.length c0_2] 31 (0, 0)) (by (with_reducible repeat first | apply blk_drewN | apply blk_drew | apply blk_alloc); refine blk_far ?_ NB101_127.out _; (with_reducible repeat first | apply blk_drewN | apply blk_drew | apply blk_alloc); refine blk_far ?_ NB101_127.out _; (with_reducible repeat first | apply blk_drewN | apply blk_drew | apply blk_alloc); refine blk_far ?_ NB101_127.out _; (with_reducible repeat first | apply blk_drewN | apply blk_drew | apply blk_alloc); exact BK101.out) hg (Kd.R_ne HO126.out BK101.out (by decide))); have n4_ := sA (blk_grown (g := gb102) (o := .cells #[.int .i64 0, .slice none 0 0, .slice none 0 0] 31 (0, 0)) (by (with_reducible repeat first | apply blk_drewN | apply blk_drew | apply blk_alloc); refine blk_far ?_ NB102_127.out _; (with_reducible repeat first | apply blk_drewN | apply blk_drew | apply blk_alloc); refine blk_far ?_ NB102_127.out _; (with_reducible repeat first | apply blk_drewN | apply blk_drew | apply blk_alloc); refine blk_far ?_ NB102_127.out _; (with_reducible repeat first | apply blk_drewN | apply blk_drew | apply blk_alloc); exact BK102.out) hg (Kd.R_ne HO126.out BK102.out (by decide))); have n5_ := sA (blk_grown (g := gb109) (o := .cells #[.slice Ao26 t105.length co26] 29 (0, 0)) (by (with_reducible repeat first | apply blk_drewN | apply blk_drew | apply blk_alloc); refine blk_far ?_ NB109_127.out _; (with_reducible repeat first | apply blk_drewN | apply blk_drew | apply blk_alloc); refine blk_far ?_ NB109_127.out _; (with_reducible repeat first | apply blk_drewN | apply blk_drew | apply blk_alloc); refine blk_far ?_ NB109_127.out _; (with_reducible repeat first | apply blk_drewN | apply blk_drew | apply blk_alloc); exact BK109.out) hg (Kd.R_ne HO126.out BK109.out (by decide))); have n6_ := sA (blk_grown (g := gb127) (o := .cells #[.int .i64 a0_0, .slice Ao26 t105.length co26, .slice Ao119 t124.length co119] 31 (0, 0)) (by (with_reducible repeat first | apply blk_drewN | apply blk_drew | apply blk_alloc); refine blk_put (cs := #[.int .i64 a0_0, .slice Ao26 t105.length co26, .slice none 0 0]) ?_ 2 _ rfl; (with_reducible repeat first | apply blk_drewN | apply blk_drew | apply blk_alloc); refine blk_put (cs := #[.int .i64 a0_0, .slice none 0 0, .slice none 0 0]) ?_ 1 _ rfl; (with_reducible repeat first | apply blk_drewN | apply blk_drew | apply blk_alloc); refine blk_put (cs := #[.int .i64 0, .slice none 0 0, .slice none 0 0]) ?_ 0 _ rfl; (with_reducible repeat first | apply blk_drewN | apply blk_drew | apply blk_alloc); exact BK127.out) hg (Kd.R_ne HO126.out BK127.out (by decide))); have n7_ := sA (hb); have n8_ := sA (ho); clear HO_10; clear HO_11; clear HO_110000; clear BK101; clear BK102; clear BK109; clear BK127; clear HB; clear HO126; have HO_10 := n0_; have HO_11 := n1_; have HO_110000 := n2_; have BK101 := n3_; have BK102 := n4_; have BK109 := n5_; have BK127 := n6_; have HB := n7_; have HO142 := n8_; clear n0_ n1_ n2_ n3_ n4_ n5_ n6_ n7_ n8_; clear ho hb hg hat; obtain ⟨Ao132, co132, eo132⟩ := Kd.R_slice HO142.out; subst eo132; have hcz133_0 : w130.cell? ⟨gb127, 0, none⟩ = some (.int .i64 a0_0) := sC BK127 0 rfl; have hcz133_1 : w130.cell? ⟨gb127, 1, none⟩ = some (.slice Ao26 t105.length co26) := sC BK127 1 rfl; have hcz133_2 : w130.cell? ⟨gb127, 2, none⟩ = some (.slice Ao119 t124.length co119) := sC BK127 2 rfl; have hfz133_0 := blk_frozen BK127.out 0; have hfz133_1 := blk_frozen BK127.out 1; have hfz133_2 := blk_frozen BK127.out 2) | ((with_reducible refine gate_store (t := 23) (p := 99) rfl ?_); refine store_event (t := 23) (p := 99) (v := ?vo_w134) (w1 := (w130.setCell ⟨gb127, 2, none⟩ (.slice Ao132 y140.length co132))) ?hg ?ho ?hn ?hr ?_; (case ho => rfl); (case hg => rfl); (case hn => rfl); (case hr => first | (go_simp; done) | (go_simp; rfl)); intro w134 hw; have n0_ : Aside0 (Kd.R (Kd.int .i64) 3 w134 w.heap.size (fun k_ => some k_ ≠ (.slice Ao131 y113.length co131 : Value).ownBlock ∧ some k_ ≠ (.slice Ao132 y140.length co132 : Value).ownBlock) u10 x10_2) := ⟨(by rw [hw]; exact (sR (Kd.R_mono (Kd.R_far (p := ⟨gb127, 2, none⟩) (Kd.R_types HO_10.out BK127.out (by decide)) (fun _ hk => hk.2) (.slice Ao132 y140.length co132)) (fun _ hk => ⟨hk.1.1, hk.1.2⟩))))⟩; have n1_ : Aside0 (Kd.R (Kd.int .i64) 3 w134 w.heap.size (fun k_ => some k_ ≠ (u10 : Value).ownBlock ∧ some k_ ≠ (.slice Ao132 y140.length co132 : Value).ownBlock) (.slice Ao131 y113.length co131) y113) := ⟨(by rw [hw]; exact (sR (Kd.R_mono (Kd.R_far (p := ⟨gb127, 2, none⟩) (Kd.R_types HO_11.out BK127.out (by decide)) (fun _ hk => hk.2) (.slice Ao132 y140.length co132)) (fun _ hk => ⟨hk.1.1, hk.1.2⟩))))⟩; have n2_ : Aside0 (Kd.R k59 59 w134 w.heap.size (fun _ => True) (.slice Ao26 t105.length co26) t105) := ⟨(by rw [hw]; exact (sR (Kd.R_mono (Kd.R_far (p := ⟨gb127, 2, none⟩) (Kd.R_types HO_110000.out BK127.out (by decide)) (fun _ hk => hk.2) (.slice Ao132 y140.length co132)) (fun _ hk => trivial))))⟩; have n3_ : Aside0 (Kd.R (Kd.int .i64) 3 w134 w.heap.size (fun k_ => some k_ ≠ (u10 : Value).ownBlock ∧ some k_ ≠ (.slice Ao131 y113.length co131 : Value).ownBlock) (.slice Ao132 y140.length co132) y140) := ⟨(by rw [hw]; exact (sR (Kd.R_mono (Kd.R_far (p := ⟨gb127, 2, none⟩) (Kd.R_types HO142.out BK127.out (by decide)) (fun _ hk => hk.2) (.slice Ao132 y140.length co132)) (fun _ hk => ⟨hk.1.1, hk.1.2⟩))))⟩; have n4_ : Aside0 (w134.heap[gb101]? = some (.cells #[.int .i64 a0_0, .slice A0_1 l0_1.length c0_1, .slice A0_2 l0_2.length c0_2] 31 (0, 0))) := ⟨(by rw [hw]; exact (by (with_reducible repeat first | apply blk_drewN | apply blk_drew | apply blk_alloc); refine blk_far ?_ NB101_127.out _; (with_reducible repeat first | apply blk_drewN | apply blk_drew | apply blk_alloc); exact BK101.out))⟩; have n5_ : Aside0 (w134.heap[gb102]? = some (.cells #[.int .i64 0, .slice none 0 0, .slice none 0 0] 31 (0, 0))) := ⟨(by rw [hw]; exact (by (with_reducible repeat first | apply blk_drewN | apply blk_drew | apply blk_alloc); refine blk_far ?_ NB102_127.out _; (with_reducible repeat first | apply blk_drewN | apply blk_drew | apply blk_alloc); exact BK102.out))⟩; have n6_ : Aside0 (w134.heap[gb109]? = some (.cells #[.slice Ao26 t105.length co26] 29 (0, 0))) := ⟨(by rw [hw]; exact (by (with_reducible repeat first | apply blk_drewN | apply blk_drew | apply blk_alloc); refine blk_far ?_ NB109_127.out _; (with_reducible repeat first | apply blk_drewN | apply blk_drew | apply blk_alloc); exact BK109.out))⟩; have n7_ : Aside0 (w134.heap[gb127]? = some (.cells #[.int .i64 a0_0, .slice Ao26 t105.length co26, .slice Ao132 y140.length co132] 31 (0, 0))) := ⟨(by rw [hw]; exact (by (with_reducible repeat first | apply blk_drewN | apply blk_drew | apply blk_alloc); refine blk_put (cs := #[.int .i64 a0_0, .slice Ao26 t105.length co26, .slice Ao119 t124.length co119]) ?_ 2 _ rfl; (with_reducible repeat first | apply blk_drewN | apply blk_drew | apply blk_alloc); exact BK127.out))⟩; have n8_ : Aside0 (Below w.heap.size w w134) := ⟨(by rw [hw]; exact (by repeat (first | (with_reducible first | exact HB.out | apply sLA | apply sLN | apply sLD | refine sLS ?_ (Aside0.out (by assumption))) | exact HB.out)))⟩; clear hw; clear HO_10; clear HO_11; clear HO_110000; clear HO142; clear BK101; clear BK102; clear BK109; clear BK127; clear HB; have HO_10 := n0_; have HO_11 := n1_; have HO_110000 := n2_; have HO142 := n3_; have BK101 := n4_; have BK102 := n5_; have BK109 := n6_; have BK127 := n7_; have HB := n8_; clear n0_ n1_ n2_ n3_ n4_ n5_ n6_ n7_ n8_; have hcz135_0 : w134.cell? ⟨gb127, 0, none⟩ = some (.int .i64 a0_0) := sC BK127 0 rfl; have hcz135_1 : w134.cell? ⟨gb127, 1, none⟩ = some (.slice Ao26 t105.length co26) := sC BK127 1 rfl; have hcz135_2 : w134.cell? ⟨gb127, 2, none⟩ = some (.slice Ao132 y140.length co132) := sC BK127 2 rfl; have hfz135_0 := blk_frozen BK127.out 0; have hfz135_1 := blk_frozen BK127.out 1; have hfz135_2 := blk_frozen BK127.out 2) | ((with_reducible refine gate_callee (f := 48) rfl ?_); refine goesL_ (some 102) rfl rfl Try.func48 (by kernel_rfl) rfl #[.slice Ao132 y140.length co132] rfl (by (try simp only [List.map_toArray, List.map_cons, List.map_nil]); first | done | rfl | (simp only [List.length_drop, List.length_take]; rfl)) ?_; (with_reducible refine (slices_Sort_int_int.calls (fun k_ => some k_ = (.slice Ao132 y140.length co132 : Value).ownBlock) (.slice Ao132 y140.length co132) y140 t143 w _ ?side1 ?side2 A111.out).mono ?_); (case side1 => repeat (first | (with_reducible first | exact HB.out | apply sLA | apply sLN | apply sLD | refine sLS ?_ GE101.out | refine sLS ?_ GE102.out | refine sLS ?_ GE109.out | refine sLS ?_ GE127.out) | exact HB.out)); (case side2 => exact Kd.R_tight rfl HO142.out); rintro e w136 ⟨rfl, hy0, hb, hkp⟩; refine ⟨_, rfl, ?_⟩; have n0_ := sA (Kd.R_mono (ok' := fun k_ => some k_ ≠ (.slice Ao131 y113.length co131 : Value).ownBlock ∧ some k_ ≠ (.slice Ao132 y140.length co132 : Value).ownBlock) (Kd.R_keptB (HO_10.out) hkp (fun k_ hk_ hs_ => (hk_.2) hs_)) (fun k_ hk_ => ⟨hk_.1.1, hk_.1.2⟩)); have n1_ := sA (Kd.R_mono (ok' := fun k_ => some k_ ≠ (u10 : Value).ownBlock ∧ some k_ ≠ (.slice Ao132 y140.length co132 : Value).ownBlock) (Kd.R_keptB (HO_11.out) hkp (fun k_ hk_ hs_ => (hk_.2) hs_)) (fun k_ hk_ => ⟨hk_.1.1, hk_.1.2⟩)); have n2_ := sA (Kd.R_mono (ok' := fun k_ => True) (Kd.R_keptB ((Kd.R_apart' HO_110000.out (Kd.R_typed HO142.out) (by decide))) hkp (fun k_ hk_ hs_ => (hk_.2) hs_)) (fun k_ hk_ => trivial)); have n3_ := sA (blk_kept (sB BK101.out) hkp (fun hs_ => (fun e_ => (Kd.R_ne HO142.out BK101.out (by decide)) e_) hs_)); have n4_ := sA (blk_kept (sB BK102.out) hkp (fun hs_ => (fun e_ => (Kd.R_ne HO142.out BK102.out (by decide)) e_) hs_)); have n5_ := sA (blk_kept (sB BK109.out) hkp (fun hs_ => (fun e_ => (Kd.R_ne HO142.out BK109.out (by decide)) e_) hs_)); have n6_ := sA (blk_kept (sB BK127.out) hkp (fun hs_ => (fun e_ => (Kd.R_ne HO142.out BK127.out (by decide)) e_) hs_)); have n7_ := sA (Kd.R_reok rfl hy0 (fun k_ e_ => HO142.out.1 k_ e_)); have n8_ := sA (hb); clear HO_10; clear HO_11; clear HO_110000; clear BK101; clear BK102; clear BK109; clear BK127; clear HO142; clear HB; have HO_10 := n0_; have HO_11 := n1_; have HO_110000 := n2_; have BK101 := n3_; have BK102 := n4_; have BK109 := n5_; have BK127 := n6_; have HO142 := n7_; have HB := n8_; clear n0_ n1_ n2_ n3_ n4_ n5_ n6_ n7_ n8_; (try clear hb); (try clear hkp); (try clear hy0); have hcz137_0 : w136.cell? ⟨gb127, 0, none⟩ = some (.int .i64 a0_0) := sC BK127 0 rfl; have hcz137_1 : w136.cell? ⟨gb127, 1, none⟩ = some (.slice Ao26 t105.length co26) := sC BK127 1 rfl; have hcz137_2 : w136.cell? ⟨gb127, 2, none⟩ = some (.slice Ao132 y140.length co132) := sC BK127 2 rfl; have hfz137_0 := blk_frozen BK127.out 0; have hfz137_1 := blk_frozen BK127.out 1; have hfz137_2 := blk_frozen BK127.out 2; have hnb138 := NB102_101.out; have hnc138 := NB101_102.out; have hcz139_0 : w136.cell? ⟨gb102, 0, none⟩ = some (.int .i64 0) := sC BK102 0 rfl; have hcz139_1 : w136.cell? ⟨gb102, 1, none⟩ = some (.slice none 0 0) := sC BK102 1 rfl; have hcz139_2 : w136.cell? ⟨gb102, 2, none⟩ = some (.slice none 0 0) := sC BK102 2 rfl; have hfz139_0 := blk_frozen BK102.out 0; have hfz139_1 := blk_frozen BK102.out 1; have hfz139_2 := blk_frozen BK102.out 2))
          refine bodyPost_ret (results_list (rs := [.cell 4 31, .tmp 5, .tmp 6, .tmp 7]) rfl (by simp) (.cell gb102 31 #[.int .i64 a0_0, .slice Ao26 t105.length co26, .slice Ao132 y140.length co132] (0, 0) _ rfl (by (with_reducible repeat first | apply blk_drewN | apply blk_drew | apply blk_alloc); refine blk_put (cs := #[.int .i64 a0_0, .slice Ao26 t105.length co26, .slice none 0 0]) ?_ 2 _ rfl; (with_reducible repeat first | apply blk_drewN | apply blk_drew | apply blk_alloc); refine blk_put (cs := #[.int .i64 a0_0, .slice none 0 0, .slice none 0 0]) ?_ 1 _ rfl; (with_reducible repeat first | apply blk_drewN | apply blk_drew | apply blk_alloc); refine blk_put (cs := #[.int .i64 0, .slice none 0 0, .slice none 0 0]) ?_ 0 _ rfl; (with_reducible repeat first | apply blk_drewN | apply blk_drew | apply blk_alloc); exact BK102.out) Try.underlying31 rfl (by kernel_rfl) (.tmp (.tmp (.tmp .nil))))) rfl ?_
          exact ⟨_, _, _, _, by first | rfl | (simp [errW_none, errW_some] <;> rfl) | (simp [*, errW_none, errW_some] <;> rfl), by (with_reducible repeat (first | apply Kd.R_alloc | apply Kd.R_drewN | apply Kd.R_drew)); exact Kd.R_mono (Kd.R_far (p := ⟨gb102, 2, none⟩) (Kd.R_far (p := ⟨gb102, 1, none⟩) (Kd.R_far (p := ⟨gb102, 0, none⟩) (Kd.R_types HO_110000.out BK102.out (by decide)) (fun _ hk => hk.2) (.int .i64 a0_0)) (fun _ hk => hk.2) (.slice Ao26 t105.length co26)) (fun _ hk => hk.2) (.slice Ao132 y140.length co132)) (fun _ hk => trivial), by (with_reducible repeat (first | apply Kd.R_alloc | apply Kd.R_drewN | apply Kd.R_drew)); exact Kd.R_mono (Kd.R_far (p := ⟨gb102, 2, none⟩) (Kd.R_far (p := ⟨gb102, 1, none⟩) (Kd.R_far (p := ⟨gb102, 0, none⟩) (Kd.R_types HO142.out BK102.out (by decide)) (fun _ hk => hk.2) (.int .i64 a0_0)) (fun _ hk => hk.2) (.slice Ao26 t105.length co26)) (fun _ hk => hk.2) (.slice Ao132 y140.length co132)) (fun _ hk => ⟨hk.1.1, hk.1.2⟩), by (with_reducible repeat (first | apply Kd.R_alloc | apply Kd.R_drewN | apply Kd.R_drew)); exact Kd.R_mono (Kd.R_far (p := ⟨gb102, 2, none⟩) (Kd.R_far (p := ⟨gb102, 1, none⟩) (Kd.R_far (p := ⟨gb102, 0, none⟩) (Kd.R_types HO_10.out BK102.out (by decide)) (fun _ hk => hk.2) (.int .i64 a0_0)) (fun _ hk => hk.2) (.slice Ao26 t105.length co26)) (fun _ hk => hk.2) (.slice Ao132 y140.length co132)) (fun _ hk => ⟨hk.1.2, hk.1.1⟩), by (with_reducible repeat (first | apply Kd.R_alloc | apply Kd.R_drewN | apply Kd.R_drew)); exact Kd.R_mono (Kd.R_far (p := ⟨gb102, 2, none⟩) (Kd.R_far (p := ⟨gb102, 1, none⟩) (Kd.R_far (p := ⟨gb102, 0, none⟩) (Kd.R_types HO_11.out BK102.out (by decide)) (fun _ hk => hk.2) (.int .i64 a0_0)) (fun _ hk => hk.2) (.slice Ao26 t105.length co26)) (fun _ hk => hk.2) (.slice Ao132 y140.length co132)) (fun _ hk => ⟨hk.1.2, hk.1.1⟩), by repeat (first | (with_reducible first | exact HB.out | apply sLA | apply sLN | apply sLD | refine sLS ?_ GE101.out | refine sLS ?_ GE102.out | refine sLS ?_ GE109.out | refine sLS ?_ GE127.out) | exact HB.out)⟩
         ·rw [if_neg c110] at H
          exact absurd H (by simp)
    ·replace c21 := Bool.eq_false_iff.mpr c21
     subst c21
     have H1 : (some (0, ([] : List (S59)), ([] : List Int), ([] : List Int), ([] : List Int), false)) = some (r1, r2, r3, r4, r5, r6) := by rw [if_neg (show ¬ (false = true) by decide)] at H; exact H
     clear H
     have H := H1
     clear H1
     simp only [Option.some.injEq, Prod.mk.injEq] at H
     obtain ⟨rfl, rfl, rfl, rfl, rfl, rfl⟩ := H
     have hnb140 := NB101_102.out
     have hnc140 := NB102_101.out
     have hcz141_0 : wc.cell? ⟨gb101, 0, none⟩ = some (.int .i64 a0_0) := sC BK101 0 rfl
     have hcz141_1 : wc.cell? ⟨gb101, 1, none⟩ = some (.slice A0_1 l0_1.length c0_1) := sC BK101 1 rfl
     have hcz141_2 : wc.cell? ⟨gb101, 2, none⟩ = some (.slice A0_2 l0_2.length c0_2) := sC BK101 2 rfl
     have hfz141_0 := blk_frozen BK101.out 0
     have hfz141_1 := blk_frozen BK101.out 1
     have hfz141_2 := blk_frozen BK101.out 2
     go_wp2_with (first | ((with_reducible refine gate_callee (f := 44) rfl ?_); refine goesL_ (some 32) rfl rfl Try.func44 (by kernel_rfl) rfl #[.slice A0_1 l0_1.length c0_1, .slice A1 l1.length c1] rfl (by (try simp only [List.map_toArray, List.map_cons, List.map_nil]); first | done | rfl | (simp only [List.length_drop, List.length_take]; rfl)) ?_; (with_reducible refine (impl_JoinSpans.calls kj2 (fun k_ => k_ < w.heap.size) _ _ l0_1 (fun k_ => k_ < w.heap.size) _ _ l1 t105 false _ ?side1 ?side2 A20.out).mono ?_); (case side1 => exact Kd.V_mk HC0_1.out (Kd.F_below (Kd.C_F k59_heap HR0_1.out) (by repeat (first | (with_reducible first | exact HB.out | apply sLA | apply sLN | apply sLD | refine sLS ?_ (Aside0.out (by assumption))) | exact HB.out)))); (case side2 => exact Kd.V_mk HC1.out (Kd.F_below (Kd.C_F k59_heap HR1.out) (by repeat (first | (with_reducible first | exact HB.out | apply sLA | apply sLN | apply sLD | refine sLS ?_ (Aside0.out (by assumption))) | exact HB.out)))); rintro e w142 ⟨v106, rfl, ho0, hb⟩; refine ⟨_, rfl, ?_⟩; have n0_ := sA (Kd.R_lower (Kd.R_mono (ok' := fun k_ => True) ho0 (fun _ hk_ => trivial)) (below_size (by repeat (first | (with_reducible first | exact HB.out | apply sLA | apply sLN | apply sLD | refine sLS ?_ (Aside0.out (by assumption))) | exact HB.out)))); have n1_ := sA (blk_below (sB BK101.out) hb); have n2_ := sA (blk_below (sB BK102.out) hb); have n3_ := sA (below_step (by repeat (first | (with_reducible first | exact HB.out | apply sLA | apply sLN | apply sLD | refine sLS ?_ (Aside0.out (by assumption))) | exact HB.out)) hb); clear BK101; clear BK102; clear HB; have HO107 := n0_; have BK101 := n1_; have BK102 := n2_; have HB := n3_; clear n0_ n1_ n2_ n3_; (try clear hb); (try clear hb2); (try clear hk); (try clear hi); (try clear ho0)) | ((with_reducible refine gate_dst (N := 8) rfl ?_); refine box_event ?hg (N := 8) ?hd (cs := #[.slice none 0 0]) (t := 29) ?hr ?_; (case hd => rfl); (case hg => rfl); (case hr => first | (go_simp; done) | (go_simp; rfl)); intro gb109 hg w143 hbox hb; have n0_ := sA (Kd.R_below (sR HO107.out) hb); have n1_ := sA (blk_below (sB BK101.out) hb); have n2_ := sA (blk_below (sB BK102.out) hb); have n3_ := sA (below_step (by repeat (first | (with_reducible first | exact HB.out | apply sLA | apply sLN | apply sLD | refine sLS ?_ (Aside0.out (by assumption))) | exact HB.out)) hb); have n4_ := sA (hbox); have n5_ := sA ((by rw [hg]; exact (below_size (by repeat (first | (with_reducible first | exact HB.out | apply sLA | apply sLN | apply sLD | refine sLS ?_ (Aside0.out (by assumption))) | exact HB.out))) : w.heap.size ≤ gb109)); have n6_ := sA ((by rw [hg]; exact (below_size (by repeat (first | (with_reducible first | exact HB.out | apply sLA | apply sLN | apply sLD | refine sLS ?_ (Aside0.out (by assumption))) | exact HB.out))) : w.heap.size ≤ gb109)); have n7_ := sA ((by rw [hg]; exact Nat.ne_of_lt (blk_lt (sB BK101.out)) : gb101 ≠ gb109)); have n8_ := sA ((by rw [hg]; exact Nat.ne_of_gt (blk_lt (sB BK101.out)) : gb109 ≠ gb101)); have n9_ := sA ((by rw [hg]; exact Nat.ne_of_lt (blk_lt (sB BK102.out)) : gb102 ≠ gb109)); have n10_ := sA ((by rw [hg]; exact Nat.ne_of_gt (blk_lt (sB BK102.out)) : gb109 ≠ gb102)); clear HO107; clear BK101; clear BK102; clear HB; have HO107 := n0_; have BK101 := n1_; have BK102 := n2_; have HB := n3_; have BK109 := n4_; have GW109 := n5_; have GE109 := n6_; have NB101_109 := n7_; have NB109_101 := n8_; have NB102_109 := n9_; have NB109_102 := n10_; clear n0_ n1_ n2_ n3_ n4_ n5_ n6_ n7_ n8_ n9_ n10_; clear hb hbox hg; obtain ⟨Ao144, co144, eo144⟩ := Kd.R_slice HO107.out; subst eo144; have hnb145 := NB109_101.out; have hnc145 := NB101_109.out; have hnb146 := NB109_102.out; have hnc146 := NB102_109.out; have hcz147_0 : w143.cell? ⟨gb109, 0, none⟩ = some (.slice none 0 0) := sC BK109 0 rfl; have hfz147_0 := blk_frozen BK109.out 0; have hcz148_0 : w143.cell? ⟨gb102, 0, none⟩ = some (.int .i64 0) := sC BK102 0 rfl; have hcz148_1 : w143.cell? ⟨gb102, 1, none⟩ = some (.slice none 0 0) := sC BK102 1 rfl; have hcz148_2 : w143.cell? ⟨gb102, 2, none⟩ = some (.slice none 0 0) := sC BK102 2 rfl; have hfz148_0 := blk_frozen BK102.out 0; have hfz148_1 := blk_frozen BK102.out 1; have hfz148_2 := blk_frozen BK102.out 2))
     refine bodyPost_ret (results_list (rs := [.cell 4 31, .tmp 5, .tmp 6, .tmp 7]) rfl (by simp) (.cell gb102 31 #[.int .i64 0, .slice none 0 0, .slice none 0 0] (0, 0) _ rfl (by (with_reducible repeat first | apply blk_drewN | apply blk_drew | apply blk_alloc); refine blk_put (cs := #[.int .i64 0, .slice none 0 0, .slice none 0 0]) ?_ 2 _ rfl; (with_reducible repeat first | apply blk_drewN | apply blk_drew | apply blk_alloc); refine blk_put (cs := #[.int .i64 0, .slice none 0 0, .slice none 0 0]) ?_ 1 _ rfl; (with_reducible repeat first | apply blk_drewN | apply blk_drew | apply blk_alloc); refine blk_put (cs := #[.int .i64 0, .slice none 0 0, .slice none 0 0]) ?_ 0 _ rfl; (with_reducible repeat first | apply blk_drewN | apply blk_drew | apply blk_alloc); refine blk_far ?_ NB102_109.out _; (with_reducible repeat first | apply blk_drewN | apply blk_drew | apply blk_alloc); exact BK102.out) Try.underlying31 rfl (by kernel_rfl) (.tmp (.tmp (.tmp .nil))))) rfl ?_
     exact ⟨_, _, _, _, by first | rfl | (simp [errW_none, errW_some] <;> rfl) | (simp [*, errW_none, errW_some] <;> rfl), by first | exact Kd.R_nil _ _ _ _ _ | exact Kd.N_nil _ _ _ _ _ | exact Kd.V_nil _ _ _ _ _ | exact Kd.Q_nil _ _ _ _ _ | exact Kd.S_nil _ _ _ _ _, by first | exact Kd.R_nil _ _ _ _ _ | exact Kd.N_nil _ _ _ _ _ | exact Kd.V_nil _ _ _ _ _ | exact Kd.Q_nil _ _ _ _ _ | exact Kd.S_nil _ _ _ _ _, by first | exact Kd.R_nil _ _ _ _ _ | exact Kd.N_nil _ _ _ _ _ | exact Kd.V_nil _ _ _ _ _ | exact Kd.Q_nil _ _ _ _ _ | exact Kd.S_nil _ _ _ _ _, by first | exact Kd.R_nil _ _ _ _ _ | exact Kd.N_nil _ _ _ _ _ | exact Kd.V_nil _ _ _ _ _ | exact Kd.Q_nil _ _ _ _ _ | exact Kd.S_nil _ _ _ _ _, by repeat (first | (with_reducible first | exact HB.out | apply sLA | apply sLN | apply sLD | refine sLS ?_ GE101.out | refine sLS ?_ GE102.out | refine sLS ?_ GE109.out) | exact HB.out)⟩

end Go.Proofs.Ytligcknlmbgbiaa.P

namespace Go.Proofs.Ytligcknlmbgbiaa.P
open Go.RowKit Go.Proofs.YtligcknlmbgbiaaW.PrintWords Go.Proofs.YtligcknlmbgbiaaW.PrintLast Go.Proofs.YtligcknlmbgbiaaW.PrintMore
attribute [local go_sem] max2_int min2_int max_two min_two max_three min_three max_four min_four
set_option linter.unusedVariables false
set_option linter.unusedSimpArgs false

/-! ### impl_NewSender: function 52 -/
def impl_NewSender.f (a0 : Int) : Option (Int × (List (S59)) × List Int × Bool) := (impl_in.f a0 0 60).bind fun t102 => (if t102 = true then (some (a0, ([] : List (S59)), ([] : List Int), true)) else (some (0, ([] : List (S59)), ([] : List Int), false)))
set_option maxHeartbeats 8000000 in
set_option maxRecDepth 100000 in
theorem impl_NewSender.calls (a0 : Int) (r1 : Int) (r2 : List (S59)) (r3 : List Int) (r4 : Bool) (w : World) (h : impl_NewSender.f a0 = some (r1, r2, r3, r4)) :
  Calls Try.prog 52 #[.int .i64 a0] w fun e w' => ∃ v1_ v2_ : Value, e = .returned (.tuple #[.agg #[.int .i64 r1, v1_, v2_], .bool r4]) ∧ Kd.R k59 59 w' w.heap.size (fun _ => True) v1_ r2 ∧ Kd.R (Kd.int .i64) 3 w' w.heap.size (fun _ => True) v2_ r3 ∧ Below w.heap.size w w' := by
 have hu31 := Try.underlying31
 have HB := sA (Below.refl w.heap.size w)
 have H : ((impl_in.f a0 0 60).bind fun t102 => (if t102 = true then (some (a0, ([] : List (S59)), ([] : List Int), true)) else (some (0, ([] : List (S59)), ([] : List Int), false)))) = some (r1, r2, r3, r4) := h
 clear h
 replace H := Option.bind_eq_some_iff.mp H
 obtain ⟨t102, A20, H⟩ := H
 replace H : (if t102 = true then (some (a0, ([] : List (S59)), ([] : List Int), true)) else (some (0, ([] : List (S59)), ([] : List Int), false))) = some (r1, r2, r3, r4) := H
 have A2 := sA A20
 clear A20
 by_cases c3 : t102 = true
 ·subst c3
  have H1 : (some (a0, ([] : List (S59)), ([] : List Int), true)) = some (r1, r2, r3, r4) := by rw [if_pos rfl] at H; exact H
  clear H
  have H := H1
  clear H1
  simp only [Option.some.injEq, Prod.mk.injEq] at H
  obtain ⟨rfl, rfl, rfl, rfl⟩ := H
  go_enter Try.func52, Try.ntmps52
  go_wp2_with (first | ((with_reducible refine gate_dst (N := 2) rfl ?_); refine box_event ?hg (N := 2) ?hd (cs := #[.int .i64 0, .slice none 0 0, .slice none 0 0]) (t := 31) ?hr ?_; (case hd => rfl); (case hg => rfl); (case hr => first | (go_simp; done) | (go_simp; rfl)); intro gb101 hg w4 hbox hb; have n0_ := sA (below_step (by repeat (first | (with_reducible first | exact HB.out | apply sLA | apply sLN | apply sLD) | exact HB.out)) hb); have n1_ := sA (hbox); have n2_ := sA ((by rw [hg]; exact (below_size (by repeat (first | (with_reducible first | exact HB.out | apply sLA | apply sLN | apply sLD) | exact HB.out))) : w.heap.size ≤ gb101)); have n3_ := sA ((by rw [hg]; exact (below_size (by repeat (first | (with_reducible first | exact HB.out | apply sLA | apply sLN | apply sLD) | exact HB.out))) : w.heap.size ≤ gb101)); clear HB; have HB := n0_; have BK101 := n1_; have GW101 := n2_; have GE101 := n3_; clear n0_ n1_ n2_ n3_; clear hb hbox hg) | ((with_reducible refine gate_callee (f := 63) rfl ?_); refine goesL_ (some 5) rfl rfl Try.func63 (by kernel_rfl) rfl #[.int .i64 a0, .int .i64 0, .int .i64 60] rfl (by (try simp only [List.map_toArray, List.map_cons, List.map_nil]); first | done | rfl | (simp only [List.length_drop, List.length_take]; rfl)) ?_; (with_reducible refine (impl_in.calls a0 0 60 true _ A2.out).mono ?_); rintro e w' ⟨rfl, ⟨nd, rfl⟩⟩; refine ⟨_, rfl, ?_⟩; (try (rw [drewN_self w4]; generalize hq_ : World.drewN w4 _ = w4; have n0_ : Aside0 (w4.heap[gb101]? = some (.cells #[.int .i64 0, .slice none 0 0, .slice none 0 0] 31 (0, 0))) := ⟨by rw [← hq_]; exact (sB BK101.out)⟩; have n1_ : Aside0 (Below w.heap.size w w4) := ⟨by rw [← hq_]; exact (by repeat (first | (with_reducible first | exact HB.out | apply sLA | apply sLN | apply sLD | refine sLS ?_ GE101.out) | exact HB.out))⟩; clear BK101 HB hq_; have BK101 := n0_; have HB := n1_; clear n0_ n1_)); have hcz5_0 : w4.cell? ⟨gb101, 0, none⟩ = some (.int .i64 0) := sC BK101 0 rfl; have hcz5_1 : w4.cell? ⟨gb101, 1, none⟩ = some (.slice none 0 0) := sC BK101 1 rfl; have hcz5_2 : w4.cell? ⟨gb101, 2, none⟩ = some (.slice none 0 0) := sC BK101 2 rfl; have hfz5_0 := blk_frozen BK101.out 0; have hfz5_1 := blk_frozen BK101.out 1; have hfz5_2 := blk_frozen BK101.out 2))
  refine bodyPost_ret (results_ct rfl _ _ gb101 31 #[.int .i64 a0, .slice none 0 0, .slice none 0 0] (0, 0) _ rfl (by (with_reducible repeat first | apply blk_drewN | apply blk_drew | apply blk_alloc); refine blk_put (cs := #[.int .i64 a0, .slice none 0 0, .slice none 0 0]) ?_ 2 _ rfl; (with_reducible repeat first | apply blk_drewN | apply blk_drew | apply blk_alloc); refine blk_put (cs := #[.int .i64 a0, .slice none 0 0, .slice none 0 0]) ?_ 1 _ rfl; (with_reducible repeat first | apply blk_drewN | apply blk_drew | apply blk_alloc); refine blk_put (cs := #[.int .i64 0, .slice none 0 0, .slice none 0 0]) ?_ 0 _ rfl; (with_reducible repeat first | apply blk_drewN | apply blk_drew | apply blk_alloc); exact BK101.out) Try.underlying31 rfl (by kernel_rfl)) rfl ?_
  exact ⟨_, _, by first | rfl | (simp [errW_none, errW_some] <;> rfl) | (simp [*, errW_none, errW_some] <;> rfl), by first | exact Kd.R_nil _ _ _ _ _ | exact Kd.N_nil _ _ _ _ _ | exact Kd.V_nil _ _ _ _ _ | exact Kd.Q_nil _ _ _ _ _ | exact Kd.S_nil _ _ _ _ _, by first | exact Kd.R_nil _ _ _ _ _ | exact Kd.N_nil _ _ _ _ _ | exact Kd.V_nil _ _ _ _ _ | exact Kd.Q_nil _ _ _ _ _ | exact Kd.S_nil _ _ _ _ _, by repeat (first | (with_reducible first | exact HB.out | apply sLA | apply sLN | apply sLD | refine sLS ?_ GE101.out) | exact HB.out)⟩
 ·replace c3 := Bool.eq_false_iff.mpr c3
  subst c3
  have H1 : (some (0, ([] : List (S59)), ([] : List Int), false)) = some (r1, r2, r3, r4) := by rw [if_neg (show ¬ (false = true) by decide)] at H; exact H
  clear H
  have H := H1
  clear H1
  simp only [Option.some.injEq, Prod.mk.injEq] at H
  obtain ⟨rfl, rfl, rfl, rfl⟩ := H
  go_enter Try.func52, Try.ntmps52
  go_wp2_with (first | ((with_reducible refine gate_dst (N := 2) rfl ?_); refine box_event ?hg (N := 2) ?hd (cs := #[.int .i64 0, .slice none 0 0, .slice none 0 0]) (t := 31) ?hr ?_; (case hd => rfl); (case hg => rfl); (case hr => first | (go_simp; done) | (go_simp; rfl)); intro gb101 hg w6 hbox hb; have n0_ := sA (below_step (by repeat (first | (with_reducible first | exact HB.out | apply sLA | apply sLN | apply sLD) | exact HB.out)) hb); have n1_ := sA (hbox); have n2_ := sA ((by rw [hg]; exact (below_size (by repeat (first | (with_reducible first | exact HB.out | apply sLA | apply sLN | apply sLD) | exact HB.out))) : w.heap.size ≤ gb101)); have n3_ := sA ((by rw [hg]; exact (below_size (by repeat (first | (with_reducible first | exact HB.out | apply sLA | apply sLN | apply sLD) | exact HB.out))) : w.heap.size ≤ gb101)); clear HB; have HB := n0_; have BK101 := n1_; have GW101 := n2_; have GE101 := n3_; clear n0_ n1_ n2_ n3_; clear hb hbox hg) | ((with_reducible refine gate_callee (f := 63) rfl ?_); refine goesL_ (some 5) rfl rfl Try.func63 (by kernel_rfl) rfl #[.int .i64 a0, .int .i64 0, .int .i64 60] rfl (by (try simp only [List.map_toArray, List.map_cons, List.map_nil]); first | done | rfl | (simp only [List.length_drop, List.length_take]; rfl)) ?_; (with_reducible refine (impl_in.calls a0 0 60 false _ A2.out).mono ?_); rintro e w' ⟨rfl, ⟨nd, rfl⟩⟩; refine ⟨_, rfl, ?_⟩; (try (rw [drewN_self w6]; generalize hq_ : World.drewN w6 _ = w6; have n0_ : Aside0 (w6.heap[gb101]? = some (.cells #[.int .i64 0, .slice none 0 0, .slice none 0 0] 31 (0, 0))) := ⟨by rw [← hq_]; exact (sB BK101.out)⟩; have n1_ : Aside0 (Below w.heap.size w w6) := ⟨by rw [← hq_]; exact (by repeat (first | (with_reducible first | exact HB.out | apply sLA | apply sLN | apply sLD | refine sLS ?_ GE101.out) | exact HB.out))⟩; clear BK101 HB hq_; have BK101 := n0_; have HB := n1_; clear n0_ n1_)); have hcz7_0 : w6.cell? ⟨gb101, 0, none⟩ = some (.int .i64 0) := sC BK101 0 rfl; have hcz7_1 : w6.cell? ⟨gb101, 1, none⟩ = some (.slice none 0 0) := sC BK101 1 rfl; have hcz7_2 : w6.cell? ⟨gb101, 2, none⟩ = some (.slice none 0 0) := sC BK101 2 rfl; have hfz7_0 := blk_frozen BK101.out 0; have hfz7_1 := blk_frozen BK101.out 1; have hfz7_2 := blk_frozen BK101.out 2))
  refine bodyPost_ret (results_ct rfl _ _ gb101 31 #[.int .i64 0, .slice none 0 0, .slice none 0 0] (0, 0) _ rfl (by (with_reducible repeat first | apply blk_drewN | apply blk_drew | apply blk_alloc); refine blk_put (cs := #[.int .i64 0, .slice none 0 0, .slice none 0 0]) ?_ 2 _ rfl; (with_reducible repeat first | apply blk_drewN | apply blk_drew | apply blk_alloc); refine blk_put (cs := #[.int .i64 0, .slice none 0 0, .slice none 0 0]) ?_ 1 _ rfl; (with_reducible repeat first | apply blk_drewN | apply blk_drew | apply blk_alloc); refine blk_put (cs := #[.int .i64 0, .slice none 0 0, .slice none 0 0]) ?_ 0 _ rfl; (with_reducible repeat first | apply blk_drewN | apply blk_drew | apply blk_alloc); exact BK101.out) Try.underlying31 rfl (by kernel_rfl)) rfl ?_
  exact ⟨_, _, by first | rfl | (simp [errW_none, errW_some] <;> rfl) | (simp [*, errW_none, errW_some] <;> rfl), by first | exact Kd.R_nil _ _ _ _ _ | exact Kd.N_nil _ _ _ _ _ | exact Kd.V_nil _ _ _ _ _ | exact Kd.Q_nil _ _ _ _ _ | exact Kd.S_nil _ _ _ _ _, by first | exact Kd.R_nil _ _ _ _ _ | exact Kd.N_nil _ _ _ _ _ | exact Kd.V_nil _ _ _ _ _ | exact Kd.Q_nil _ _ _ _ _ | exact Kd.S_nil _ _ _ _ _, by repeat (first | (with_reducible first | exact HB.out | apply sLA | apply sLN | apply sLD | refine sLS ?_ GE101.out) | exact HB.out)⟩

end Go.Proofs.Ytligcknlmbgbiaa.P

namespace Go.Proofs.Ytligcknlmbgbiaa.P
open Go.RowKit Go.Proofs.YtligcknlmbgbiaaW.PrintWords Go.Proofs.YtligcknlmbgbiaaW.PrintLast Go.Proofs.YtligcknlmbgbiaaW.PrintMore
attribute [local go_sem] max2_int min2_int max_two min_two max_three min_three max_four min_four
set_option linter.unusedVariables false
set_option linter.unusedSimpArgs false

/-! ### impl_isComing: function 53 -/
def impl_isComing.l0 : Nat → List Int → Int → List Int → Int → Int → Option (Bool)
  | 0, _, _, _, _, _ => none
  | k + 1, x0, x1, x7, x8, x9 => if x9 < x8 then (if 0 ≤ x9 then (if x9 < (x7.length : Int) then ((impl_in.f (rd x7 x9) 0 (wrap64 (x1 - 1))).bind fun t102 => (if t102 = true then (if x9 ≤ (x0.length : Int) then ((slices_Contains_int_int.f k (x0.take (x9 : Int).toNat) (rd x7 x9)).bind fun t104 => (if t104 = true then (some false) else (impl_isComing.l0 k x0 x1 x7 x8 (wrap64 (x9 + 1))))) else (none)) else (some false))) else (none)) else (none)) else (some true)
def impl_isComing.f (k : Nat) (l0 : List Int) (a1 : Int) : Option (Bool) := impl_isComing.l0 k l0 a1 l0 (l0.length : Int) 0
set_option maxHeartbeats 8000000 in
set_option maxRecDepth 100000 in
theorem impl_isComing.calls (k : Nat) (A0 : Option Addr) (c0 : Nat) (l0 : List Int) (a1 : Int) (r : Bool) (w : World) (hr0 : Kd.C (Kd.int .i64) w A0 l0.length l0) (hc0 : l0.length ≤ c0) (h : impl_isComing.f k l0 a1 = some r) :
  Calls Try.prog 53 #[.slice A0 l0.length c0, .int .i64 a1] w fun e w' => e = .returned (.bool r) ∧ Drawn0 w w' := by
 have HR0 := sA hr0
 have HC0 := sA hc0
 clear hr0 hc0
 have H : (impl_isComing.l0 k l0 a1 l0 (l0.length : Int) 0) = some r := h
 clear h
 have H' := sA H
 clear H
 go_enter Try.func53, Try.ntmps53
 go_wp2
 go_loopg [9] k (fun kq v9 w' => ∃ (x9_1 : Int), v9 = .int .i64 x9_1 ∧ Aside0 (impl_isComing.l0 kq l0 a1 l0 (l0.length : Int) x9_1 = some r) ∧ Aside0 (kq ≤ k) ∧ Drawn0 w w')
 case atStart => exact ⟨(0), (by first | rfl | (simp; done) | (simp [*]; done)), H', ⟨Nat.le_refl _⟩, by repeat (first | exact Drawn0.refl _ | apply Drawn0.step)⟩
 case round =>
  clear H'
  try clear p2
  obtain ⟨x9_1, rfl, HA, HK1, ⟨m1, rfl⟩⟩ := hrel
  cases gk with
  | zero => exact absurd HA.out (by simp [impl_isComing.l0])
  | succ k1 =>
   have H := HA.out
   clear HA
   simp only [impl_isComing.l0] at H
   by_cases c3 : x9_1 < (l0.length : Int)
   ·rw [if_pos c3] at H
    have c3b0 : decide (x9_1 < (l0.length : Int)) = true := decide_eq_true c3
    clear c3
    by_cases c4 : 0 ≤ x9_1
    ·rw [if_pos c4] at H
     have c4b0 : decide (0 ≤ x9_1) = true := decide_eq_true c4
     clear c4
     by_cases c5 : x9_1 < (l0.length : Int)
     ·rw [if_pos c5] at H
      have c5b0 : decide (x9_1 < (l0.length : Int)) = true := decide_eq_true c5
      clear c5
      replace H := Option.bind_eq_some_iff.mp H
      obtain ⟨t102, A60, H⟩ := H
      replace H : (if t102 = true then (if x9_1 ≤ (l0.length : Int) then ((slices_Contains_int_int.f k1 (l0.take (x9_1 : Int).toNat) (rd l0 x9_1)).bind fun t104 => (if t104 = true then (some false) else (impl_isComing.l0 k1 l0 a1 l0 (l0.length : Int) (wrap64 (x9_1 + 1))))) else (none)) else (some false)) = some r := H
      have A6 := sA A60
      clear A60
      by_cases c7 : t102 = true
      ·subst c7
       have H1 : (if x9_1 ≤ (l0.length : Int) then ((slices_Contains_int_int.f k1 (l0.take (x9_1 : Int).toNat) (rd l0 x9_1)).bind fun t104 => (if t104 = true then (some false) else (impl_isComing.l0 k1 l0 a1 l0 (l0.length : Int) (wrap64 (x9_1 + 1))))) else (none)) = some r := by rw [if_pos rfl] at H; exact H
       clear H
       have H := H1
       clear H1
       have c8b0 := eq_true (of_decide_eq_true (by first | (with_reducible assumption) | assumption) : 0 ≤ x9_1)
       by_cases c9 : x9_1 ≤ (l0.length : Int)
       ·rw [if_pos c9] at H
        have c9b0 := eq_true c9
        have c9b1 : decide (x9_1 ≤ (l0.length : Int)) = true := decide_eq_true c9
        clear c9
        replace H := Option.bind_eq_some_iff.mp H
        obtain ⟨t104, A100, H⟩ := H
        replace H : (if t104 = true then (some false) else (impl_isComing.l0 k1 l0 a1 l0 (l0.length : Int) (wrap64 (x9_1 + 1)))) = some r := H
        have A10 := sA A100
        clear A100
        by_cases c11 : t104 = true
        ·subst c11
         have H1 : (some false) = some r := by rw [if_pos rfl] at H; exact H
         clear H
         have H := H1
         clear H1
         obtain rfl := Option.some.inj H
         have p101 : 0 ≤ (x9_1 : Int) := of_decide_eq_true (by first | (with_reducible assumption) | assumption)
         have q101 : x9_1 < (l0.length : Int) := of_decide_eq_true (by first | (with_reducible assumption) | assumption)
         obtain ⟨ad101, e101, hx101_0⟩ := Kd.at_int HR0.out x9_1 p101 q101
         cases e101
         replace p101 := eq_true p101
         replace q101 := eq_true q101
         go_wp2_with (first | ((with_reducible refine gate_callee (f := 63) rfl ?_); refine goesL_ (some 17) rfl rfl Try.func63 (by kernel_rfl) rfl #[.int .i64 (rd l0 x9_1), .int .i64 0, .int .i64 (wrap64 (a1 - 1))] rfl (by (try simp only [List.map_toArray, List.map_cons, List.map_nil]); first | done | rfl | (simp only [List.length_drop, List.length_take]; rfl)) ?_; (with_reducible refine (impl_in.calls (rd l0 x9_1) 0 (wrap64 (a1 - 1)) true _ A6.out).mono ?_); rintro e w' ⟨rfl, ⟨nd, rfl⟩⟩; refine ⟨_, rfl, ?_⟩; obtain ⟨i012, hi012, _, hsz12, _⟩ := info_parts info3; obtain ⟨hcut12, hA12, hC12⟩ := print_take_of (P := Try.prog) (Value.int .i64) 0 23 3 .i64 Try.underlying23 hi012 hsz12 (some ad101) c0 l0 x9_1 (of_decide_eq_true (by first | (with_reducible assumption) | assumption)) (of_decide_eq_true (by first | (with_reducible assumption) | assumption)) HC0.out; have HR103 := sA (Kd.C_of_reads (h1 := fun _ => rfl) (hA12 _ (Kd.reads_of_C HR0.out))); have HC103 := sA hC12; clear hA12 hC12 hi012 hsz12) | (go_at_call 64; refine calls_of_args (args' := #[.slice (some ad101) (l0.take (x9_1 : Int).toNat).length c0, .int .i64 (rd l0 x9_1)]) (by rw [List.length_take, Nat.min_eq_left (by have h1_ := of_eq_true p101; have h2_ := of_eq_true q101; omega)]) ?_; (with_reducible refine (slices_Contains_int_int.calls k1 _ _ (l0.take (x9_1 : Int).toNat) (rd l0 x9_1) true _ ?side1 ?side2 A10.out).mono ?_); (case side1 => repeat (first | exact HR103.out | (with_reducible refine Kd.C_alloc ?_ _) | (with_reducible refine Kd.C_drewN ?_ _) | (with_reducible refine Kd.C_drew ?_))); (case side2 => exact HC103.out); rintro e w' ⟨rfl, ⟨nd, rfl⟩⟩))
         go_ret
         exact ⟨by first | rfl | (simp; done) | (simp [*]; done), by repeat (first | exact Drawn0.refl _ | apply Drawn0.step)⟩
        ·replace c11 := Bool.eq_false_iff.mpr c11
         subst c11
         have H1 : (impl_isComing.l0 k1 l0 a1 l0 (l0.length : Int) (wrap64 (x9_1 + 1))) = some r := by rw [if_neg (show ¬ (false = true) by decide)] at H; exact H
         clear H
         have H := H1
         clear H1
         have H' := sA H
         clear H
         have p101 : 0 ≤ (x9_1 : Int) := of_decide_eq_true (by first | (with_reducible assumption) | assumption)
         have q101 : x9_1 < (l0.length : Int) := of_decide_eq_true (by first | (with_reducible assumption) | assumption)
         obtain ⟨ad101, e101, hx101_0⟩ := Kd.at_int HR0.out x9_1 p101 q101
         cases e101
         replace p101 := eq_true p101
         replace q101 := eq_true q101
         go_wp2_with (first | ((with_reducible refine gate_callee (f := 63) rfl ?_); refine goesL_ (some 17) rfl rfl Try.func63 (by kernel_rfl) rfl #[.int .i64 (rd l0 x9_1), .int .i64 0, .int .i64 (wrap64 (a1 - 1))] rfl (by (try simp only [List.map_toArray, List.map_cons, List.map_nil]); first | done | rfl | (simp only [List.length_drop, List.length_take]; rfl)) ?_; (with_reducible refine (impl_in.calls (rd l0 x9_1) 0 (wrap64 (a1 - 1)) true _ A6.out).mono ?_); rintro e w' ⟨rfl, ⟨nd, rfl⟩⟩; refine ⟨_, rfl, ?_⟩; obtain ⟨i013, hi013, _, hsz13, _⟩ := info_parts info3; obtain ⟨hcut13, hA13, hC13⟩ := print_take_of (P := Try.prog) (Value.int .i64) 0 23 3 .i64 Try.underlying23 hi013 hsz13 (some ad101) c0 l0 x9_1 (of_decide_eq_true (by first | (with_reducible assumption) | assumption)) (of_decide_eq_true (by first | (with_reducible assumption) | assumption)) HC0.out; have HR103 := sA (Kd.C_of_reads (h1 := fun _ => rfl) (hA13 _ (Kd.reads_of_C HR0.out))); have HC103 := sA hC13; clear hA13 hC13 hi013 hsz13) | (go_at_call 64; refine calls_of_args (args' := #[.slice (some ad101) (l0.take (x9_1 : Int).toNat).length c0, .int .i64 (rd l0 x9_1)]) (by rw [List.length_take, Nat.min_eq_left (by have h1_ := of_eq_true p101; have h2_ := of_eq_true q101; omega)]) ?_; (with_reducible refine (slices_Contains_int_int.calls k1 _ _ (l0.take (x9_1 : Int).toNat) (rd l0 x9_1) false _ ?side1 ?side2 A10.out).mono ?_); (case side1 => repeat (first | exact HR103.out | (with_reducible refine Kd.C_alloc ?_ _) | (with_reducible refine Kd.C_drewN ?_ _) | (with_reducible refine Kd.C_drew ?_))); (case side2 => exact HC103.out); rintro e w' ⟨rfl, ⟨nd, rfl⟩⟩))
         go_roundg k1
         case measure => have := HK1.out; omega
         case rel => exact ⟨(wrap64 (x9_1 + 1)), (by first | rfl | (simp; done) | (simp [*]; done)), H', ⟨by have := HK1.out; omega⟩, by repeat (first | exact Drawn0.refl _ | apply Drawn0.step)⟩
       ·rw [if_neg c9] at H
        exact absurd H (by simp)
      ·replace c7 := Bool.eq_false_iff.mpr c7
       subst c7
       have H1 : (some false) = some r := by rw [if_neg (show ¬ (false = true) by decide)] at H; exact H
       clear H
       have H := H1
       clear H1
       obtain rfl := Option.some.inj H
       have p101 : 0 ≤ (x9_1 : Int) := of_decide_eq_true (by first | (with_reducible assumption) | assumption)
       have q101 : x9_1 < (l0.length : Int) := of_decide_eq_true (by first | (with_reducible assumption) | assumption)
       obtain ⟨ad101, e101, hx101_0⟩ := Kd.at_int HR0.out x9_1 p101 q101
       cases e101
       replace p101 := eq_true p101
       replace q101 := eq_true q101
       go_wp2_with (first | ((with_reducible refine gate_callee (f := 63) rfl ?_); refine goesL_ (some 17) rfl rfl Try.func63 (by kernel_rfl) rfl #[.int .i64 (rd l0 x9_1), .int .i64 0, .int .i64 (wrap64 (a1 - 1))] rfl (by (try simp only [List.map_toArray, List.map_cons, List.map_nil]); first | done | rfl | (simp only [List.length_drop, List.length_take]; rfl)) ?_; (with_reducible refine (impl_in.calls (rd l0 x9_1) 0 (wrap64 (a1 - 1)) false _ A6.out).mono ?_); rintro e w' ⟨rfl, ⟨nd, rfl⟩⟩; refine ⟨_, rfl, ?_⟩))
       go_ret
       exact ⟨by first | rfl | (simp; done) | (simp [*]; done), by repeat (first | exact Drawn0.refl _ | apply Drawn0.step)⟩
     ·rw [if_neg c5] at H
      exact absurd H (by simp)
    ·rw [if_neg c4] at H
     exact absurd H (by simp)
   ·rw [if_neg c3] at H
    have c3b0 : decide (x9_1 < (l0.length : Int)) = false := decide_eq_false c3
    clear c3
    obtain rfl := Option.some.inj H
    go_wp2
    go_ret
    exact ⟨by first | rfl | (simp; done) | (simp [*]; done), by repeat (first | exact Drawn0.refl _ | apply Drawn0.step)⟩

end Go.Proofs.Ytligcknlmbgbiaa.P

namespace Go.Proofs.Ytligcknlmbgbiaa.P
open Go.RowKit Go.Proofs.YtligcknlmbgbiaaW.PrintWords Go.Proofs.YtligcknlmbgbiaaW.PrintLast Go.Proofs.YtligcknlmbgbiaaW.PrintMore
attribute [local go_sem] max2_int min2_int max_two min_two max_three min_three max_four min_four
set_option linter.unusedVariables false
set_option linter.unusedSimpArgs false

/-! ### slices_Compact_int_int: function 54 (by hand) -/
open Go.Shelf Go.Sort
def slices_Compact_int_int.lay_ren : Go.Shelf.Ren := ⟨fun | 43 => 54 | n => n, fun | 22 => 23 | 23 => 3 | 3 => 3 | 4 => 4 | 0 => 0 | n => n, fun | n => n⟩
theorem slices_Compact_int_int.lay : SlLaysN.n43 Try.prog slices_Compact_int_int.lay_ren := {
  mixed := by kernel_rfl
  f43 := ⟨Try.f54.name, by decide, Try.func54.trans (congrArg some (by kernel_rfl))⟩
  t0 := Try.underlying0
  a0 := Try.isAgg0
  z0 := Try.sizeOf0
  v0 := Try.zeroValue0
  t3 := Try.underlying3
  a3 := Try.isAgg3
  z3 := Try.sizeOf3
  v3 := Try.zeroValue3
  t4 := Try.underlying4
  a4 := Try.isAgg4
  z4 := Try.sizeOf4
  v4 := Try.zeroValue4
  t22 := Try.underlying23
  a22 := Try.isAgg23
  z22 := Try.sizeOf23
  v22 := Try.zeroValue23
  t23 := Try.underlying3
  a23 := Try.isAgg3
  z23 := Try.sizeOf3
  v23 := Try.zeroValue3
  i23 := by kernel_rfl }


/-- slices.Compact at []int. -/
def slices_Compact_int_int.f (l : List Int) : Option (List Int) := if l.length ≤ 9223372036854775807 then some (Lib.compact l) else none
theorem slices_Compact_int_int.calls (P0_ : Nat → Prop) (u9000_ : Value) (l0 : List Int) (r : List Int) (w0 w : World) (hB : Below w0.heap.size w0 w) (ho0 : Kd.R (Kd.int .i64) 3 w w0.heap.size P0_ u9000_ l0) (h : slices_Compact_int_int.f l0 = some r) :
    Calls Try.prog 54 #[u9000_] w fun e w' => ∃ v0_ : Value, e = .returned (v0_) ∧ Kd.R (Kd.int .i64) 3 w' w0.heap.size (fun k_ => (P0_ k_ ∨ w.heap.size ≤ k_)) v0_ r ∧ Below w0.heap.size w0 w' ∧ Kept w w' (fun k_ => P0_ k_) := by
  unfold slices_Compact_int_int.f at h
  by_cases hl : l0.length ≤ 9223372036854775807
  · rw [if_pos hl] at h
    obtain rfl := Option.some.inj h
    rcases R_parts ho0 with ⟨rfl, rfl⟩ | ⟨g, cap, cur, inner, rfl, hok, hg, hh, h1, h2, h3, h4, hr⟩
    · refine (AnyG.slices_Compact_int_empty slices_Compact_int_int.lay none 0 w).mono ?_
      rintro e w' ⟨rfl, rfl⟩
      exact ⟨_, rfl, by simpa [Lib.compact, Lib.compactUpTo] using Kd.R_nil (Kd.int .i64) 3 _ _ _, hB, Kept.refl _ _⟩
    · have hz : (Kd.int .i64).sz = 1 := rfl
      have hi := Kd.reps_encs hr
      rw [hi, hz, Nat.mul_one] at h4
      rw [hz] at h3
      have hle : (Lib.compact l0).length ≤ l0.length := by
        unfold Lib.compact Lib.compactUpTo
        rw [List.length_map]
        exact Nat.le_trans (List.length_filter_le _ _) (by simp)
      refine (AnyG.slices_Compact_int slices_Compact_int_int.lay g 0 cap l0 w (holds_put (Value.int .i64) hh (by simpa [encs] using h4)) hl h1).mono ?_
      rintro e w' ⟨rfl, q, hw⟩
      rw [← grow_empty (putRow _ _ _ _ _)] at hw
      subst hw
      generalize hys : Lib.compact l0 ++ List.replicate (l0.length - (Lib.compact l0).length) 0 = ys
      have hlen : ys.length = l0.length := by rw [← hys]; simp; omega
      have hR : Kd.R (Kd.int .i64) 3 (grow (putRow (Value.int .i64) (Sort.ahead w q) g 0 ys.toArray) #[]) w0.heap.size (fun k_ => (P0_ k_ ∨ w.heap.size ≤ k_)) (.slice (some ⟨g, 0, none⟩) ys.length cap) ys :=
        R_put (Value.int .i64) _ (.inl hok) hg hh (by rw [hlen]; exact h1) h2 h3 (by simp [hz]) (Kd.reps_scalar (enc := Value.int .i64) ys)
      have hT := Kd.R_take (m := (Lib.compact l0).length) hR (by omega)
      have ht : ys.take (Lib.compact l0).length = Lib.compact l0 := by rw [← hys]; exact List.take_left
      rw [ht] at hT
      exact ⟨_, rfl, hT, below_put _ _ hB hg, kept_put _ _ hok⟩
  · rw [if_neg hl] at h
    cases h


end Go.Proofs.Ytligcknlmbgbiaa.P
