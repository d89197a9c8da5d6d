/- FnExactSendNext: for every input that can be read, the law returns true and its arguments read as before. Conditions: none beyond the row's own. (Part 5 of 5: contracts made by pw.py with the kit's print, contracts by hand, plain laws, the row.) -/
import Derived.Test.YtligcknlmbgbiaaMFnExactSendNext3
import Derived.Test.YtligcknlmbgbiaaWWords
import Derived.ChangeArms
import Derived.ChangeSame
import Derived.ChangeSlices
import Derived.WideShapes
import Derived.ProofKit
import Derived.KernelRfl
import Derived.Test.YtligcknlmbgbiaaRows
import Derived.WalkKit
import Derived.OpenShut
import Derived.ShutString
import Derived.ChangeOld
import Derived.Below
import Derived.SizedLaws
import Derived.Carry

/- Reading of arguments by kind: what the row's reader can read is a value of the printed kind. -/
namespace Go.Proofs.Ytligcknlmbgbiaa.Opn
open Go.RowKit Go.Proofs.YtligcknlmbgbiaaW.PrintWords

structure Opens {α : Type} (P : Program) (t : TypeId) (d : Kd α) (wf : α → Prop) : Prop where
  out : ∀ {H : Type} (enc : TypeId × Value → H) (W : World) (fuel : Nat) (cs : List Value) (x : DataW H × List MemPlace),
    DataW.trod enc P W 0 (fun _ => true) true fuel t cs = some x → ∃ y, d.K W y cs ∧ wf y

def wfI (x : Int) : Prop := -9223372036854775808 ≤ x ∧ x ≤ 9223372036854775807
def wfB (_ : Bool) : Prop := True
def wfS (x : ByteArray) : Prop := x.size ≤ 9223372036854775807
def wfL {α : Type} (wf : α → Prop) (l : List α) : Prop := l.length ≤ 9223372036854775807 ∧ ∀ x, x ∈ l → wf x

theorem wfI_of {x : Int} (hw : (Lit.int .i64 x).wf = true) : wfI x := by
  simp [Lit.wf] at hw
  exact ⟨by simpa [IntKind.min, IntKind.signed, IntKind.bits] using hw.1, by simpa [IntKind.max, IntKind.signed, IntKind.bits] using hw.2⟩
theorem opens_int {P : Program} {t : TypeId} (h : P.underlying t = some (.int .i64)) : Opens P t (Kd.int .i64) wfI := by
  refine ⟨?_⟩
  intro H enc W fuel cs x hx
  obtain ⟨n, rfl, _, hw⟩ := DataW.trod_int h hx
  exact ⟨n, rfl, wfI_of hw⟩
theorem opens_bool {P : Program} {t : TypeId} (h : P.underlying t = some .bool) : Opens P t Kd.bool wfB := by
  refine ⟨?_⟩
  intro H enc W fuel cs x hx
  obtain ⟨b, rfl, _⟩ := DataW.trod_bool h hx
  exact ⟨b, rfl, trivial⟩
theorem opens_string {P : Program} {t : TypeId} (h : P.underlying t = some .string) : Opens P t Kd.string wfS := by
  refine ⟨?_⟩
  intro H enc W fuel cs x hx
  obtain ⟨b, rfl, _, hs⟩ := DataW.trod_string h hx
  exact ⟨b, rfl, hs⟩

theorem add_add_ (ad : Addr) (m j : Nat) : (ad.add m).add j = ad.add (m + j) := by
  unfold Addr.add
  by_cases hm : m = 0
  · subst hm; simp
  · by_cases hj : j = 0
    · subst hj; simp [hm]
    · simp [hm, hj, Nat.add_assoc]

theorem opens_slice {P : Program} {t e : TypeId} {α : Type} {d : Kd α} {wf : α → Prop} (h : P.underlying t = some (.slice e)) (hsz : P.cellsOf e = d.sz) (ho : Opens P e d wf) : Opens P t (Kd.slice e d) (wfL wf) := by
  refine ⟨?_⟩
  intro H enc W fuel cs x hx
  rcases DataW.trod_slice h hx with ⟨rfl, _⟩ | ⟨a, len, cap, elems, rest, n, _, rfl, _, _, hl, hm, hlen, hel, _, _⟩
  · exact ⟨[], ⟨none, 0, rfl, Nat.le_refl _, rfl, by simp, fun hp => absurd hp (by simp)⟩, by simp, fun x hx => by simp at hx⟩
  · have hm' : len ≤ 9223372036854775807 := by simp only [maxLen] at hm; omega
    have each : ∀ i, i < len → ∃ y c, c.length = d.sz ∧ d.K W y c ∧ wf y ∧ ∀ j u, c[j]? = some u → W.cell? (a.add (i * d.sz + j)) = some u := by
      intro i hi
      have h1 := hel i hi
      rw [List.getElem?_eq_getElem (by omega)] at h1
      obtain ⟨c, hc, hd⟩ := Option.bind_eq_some_iff.1 h1
      obtain ⟨y, hy, hw⟩ := ho.out enc W n c _ hd
      obtain ⟨_, hcl, hcc⟩ := World.cells?_some hc
      refine ⟨y, c, by rw [hcl, hsz], hy, hw, fun j u hu => ?_⟩
      have hj : j < P.cellsOf e := by have := (List.getElem?_eq_some_iff.1 hu).1; omega
      have := hcc j hj
      rw [hu, add_add_, hsz] at this
      exact this
    have build : ∀ k, k ≤ len → ∃ ys : List α, ys.length = k ∧ (∀ y, y ∈ ys → wf y) ∧ ∀ j p, ys[j]? = some p → ∃ c, c.length = d.sz ∧ d.K W p c ∧ ∀ i u, c[i]? = some u → W.cell? (a.add (j * d.sz + i)) = some u := by
      intro k
      induction k with
      | zero => intro _; exact ⟨[], rfl, by simp, by simp⟩
      | succ k ih =>
        intro hk
        obtain ⟨ys, hlys, hw, hy⟩ := ih (by omega)
        obtain ⟨y, c, hcl, hK, hwy, hcell⟩ := each k (by omega)
        refine ⟨ys ++ [y], by simp [hlys], fun z hz => ?_, fun j p hp => ?_⟩
        · rcases List.mem_append.1 hz with hz | hz
          · exact hw z hz
          · rw [List.mem_singleton.1 hz]; exact hwy
        · rcases Nat.lt_or_ge j ys.length with hj | hj
          · rw [List.getElem?_append_left hj] at hp
            exact hy j p hp
          · have hj' : j = ys.length := by
              have := (List.getElem?_eq_some_iff.1 hp).1
              simp at this
              omega
            subst hj'
            have hp' : y = p := by simpa using hp
            subst hp'
            rw [hlys]
            exact ⟨c, hcl, hK, hcell⟩
    obtain ⟨ys, hlys, hw, hy⟩ := build len (Nat.le_refl _)
    subst hlys
    exact ⟨ys, ⟨some a, cap, rfl, hl, rfl, hm', fun _ => ⟨a, rfl, hy⟩⟩, hm', hw⟩

/-- the fields of a struct from an offset on -/
structure OpensF {α : Type} (P : Program) (fs : List Field) (off : Nat) (d : Kd α) (wf : α → Prop) : Prop where
  out : ∀ {H : Type} (enc : TypeId × Value → H) (W : World) (fuel : Nat) (cs : List Value), cs.length = off + d.sz →
    (∀ (i : Nat) (f : Field), fs[i]? = some f → ∃ y, DataW.trod enc P W 0 (fun _ => true) true fuel f.type ((cs.drop f.offset).take (P.cellsOf f.type)) = some y) →
    ∃ y, d.K W y (cs.drop off) ∧ wf y

theorem opens_last {P : Program} {f : Field} {off : Nat} {α : Type} {d : Kd α} {wf : α → Prop} (hoff : f.offset = off) (hsz : P.cellsOf f.type = d.sz) (ho : Opens P f.type d wf) : OpensF P [f] off d wf := by
  refine ⟨?_⟩
  intro H enc W fuel cs hl hf
  obtain ⟨y, hy⟩ := hf 0 f rfl
  rw [hoff, hsz, List.take_of_length_le (by rw [List.length_drop]; omega)] at hy
  exact ho.out enc W fuel _ _ hy

theorem opens_cons {P : Program} {f : Field} {fs : List Field} {off : Nat} {α β : Type} {a : Kd α} {b : Kd β} {wa : α → Prop} {wb : β → Prop} (hoff : f.offset = off) (hsz : P.cellsOf f.type = a.sz)
    (ha : Opens P f.type a wa) (hb : OpensF P fs (off + a.sz) b wb) : OpensF P (f :: fs) off (Kd.pair a b) (fun x => wa x.1 ∧ wb x.2) := by
  refine ⟨?_⟩
  intro H enc W fuel cs hl hf
  have hl' : cs.length = off + (a.sz + b.sz) := hl
  obtain ⟨y, hy⟩ := hf 0 f rfl
  rw [hoff, hsz] at hy
  obtain ⟨p, hp, hwp⟩ := ha.out enc W fuel _ _ hy
  obtain ⟨q, hq, hwq⟩ := hb.out enc W fuel cs (by omega) (fun i g hg => hf (i + 1) g (by simpa using hg))
  refine ⟨(p, q), ⟨(cs.drop off).take a.sz, cs.drop (off + a.sz), ?_, hp, hq⟩, hwp, hwq⟩
  rw [← List.drop_drop, List.take_append_drop]

theorem opens_struct {P : Program} {t : TypeId} {fs : Array Field} {α β : Type} {d : Kd α} {f : β → α} {wf : α → Prop} (hT : P.underlying t = some (.struct fs)) (hsz : P.cellsOf t = d.sz) (g : α → β) (hg : ∀ y, f (g y) = y)
    (ho : OpensF P fs.toList 0 d wf) : Opens P t (Kd.iso d f) (fun x => wf (f x)) := by
  refine ⟨?_⟩
  intro H enc W fuel cs x hx
  obtain ⟨xs, n, _, _, hl, hlen, hf⟩ := DataW.trod_struct hT hx
  obtain ⟨y, hy, hw⟩ := ho.out enc W n cs (by omega) (fun i q hq => ⟨_, (hf i q (by simpa using hq)).trans (List.getElem?_eq_getElem (by
    have := (List.getElem?_eq_some_iff.1 hq).1
    simp at this hlen
    omega))⟩)
  refine ⟨g y, ?_, ?_⟩
  · show d.K W (f (g y)) cs
    rw [hg]
    exact hy
  · show wf (f (g y))
    rw [hg]
    exact hw

end Go.Proofs.Ytligcknlmbgbiaa.Opn

namespace Go.Proofs.Ytligcknlmbgbiaa.P
open Go.RowKit Go.Proofs.YtligcknlmbgbiaaW.PrintWords Go.Proofs.YtligcknlmbgbiaaW.PrintLast Go.Proofs.YtligcknlmbgbiaaW.PrintMore Go.Proofs.Ytligcknlmbgbiaa.Opn
set_option linter.unusedVariables false

theorem opens3 : Opens Try.prog 3 (Kd.int .i64) wfI := opens_int Try.underlying3
def wf62 (x : S62) : Prop := wfI x.f0 ∧ wfI x.f1
theorem opens62 : Opens Try.prog 62 k62 wf62 := by
  have h := opens_struct (f := (fun x : S62 => (x.f0, x.f1))) Try.underlying62 (by kernel_rfl) (fun y => ⟨y.1, y.2⟩) (fun _ => rfl) (opens_cons rfl (by kernel_rfl) opens3 (opens_last rfl (by kernel_rfl) opens3))
  exact ⟨h.out⟩
theorem opens22 : Opens Try.prog 22 (Kd.slice 62 k62) (wfL wf62) := opens_slice Try.underlying22 (by kernel_rfl) opens62
theorem opens23 : Opens Try.prog 23 (Kd.slice 3 (Kd.int .i64)) (wfL wfI) := opens_slice Try.underlying23 (by kernel_rfl) opens3
def wf25 (x : S25) : Prop := wfI x.f0 ∧ (wfL wf62) x.f1 ∧ (wfL wfI) x.f2
theorem opens25 : Opens Try.prog 25 k25 wf25 := by
  have h := opens_struct (f := (fun x : S25 => (x.f0, x.f1, x.f2))) Try.underlying25 (by kernel_rfl) (fun y => ⟨y.1, y.2.1, y.2.2⟩) (fun _ => rfl) (opens_cons rfl (by kernel_rfl) opens3 (opens_cons rfl (by kernel_rfl) opens22 (opens_last rfl (by kernel_rfl) opens23)))
  exact ⟨h.out⟩

end Go.Proofs.Ytligcknlmbgbiaa.P

namespace Go.Proofs.Ytligcknlmbgbiaa.P
open Go.RowKit Go.Proofs.YtligcknlmbgbiaaW.PrintWords Go.Proofs.YtligcknlmbgbiaaW.PrintLast Go.Proofs.YtligcknlmbgbiaaW.PrintMore Go.Proofs.Ytligcknlmbgbiaa.Opn
set_option linter.unusedVariables false

def laws_FnExactSendNext.Pure : Prop := ∀ (a0_0 : Int) (l0_1 : List (S62)) (l0_2 : List Int), wfI a0_0 → (wfL wf62) l0_1 → (wfL wfI) l0_2 → ∃ k, laws_FnExactSendNext.f k a0_0 l0_1 l0_2 = some true

end Go.Proofs.Ytligcknlmbgbiaa.P

namespace Go.Proofs.Ytligcknlmbgbiaa.Pure
open Go.RowKit Go.Proofs.Ytligcknlmbgbiaa.P Go.Proofs.YtligcknlmbgbiaaW.PrintWords Go.Proofs.YtligcknlmbgbiaaW.PrintLast Go.Proofs.Ytligcknlmbgbiaa.Opn
set_option linter.unusedVariables false
set_option linter.unusedSimpArgs false

theorem wrap_id {x : Int} (h0 : -9223372036854775808 ≤ x) (h1 : x ≤ 9223372036854775807) : wrap64 x = x := by
  unfold wrap64
  omega
theorem rd_nat (l : List Int) (i : Nat) (h : i < l.length) : rd l (i : Int) = l[i] := by
  simp [rd, List.getD_eq_getElem?_getD, List.getElem?_eq_getElem h]
theorem drop_rd (l : List Int) (i : Nat) (h : i < l.length) : l.drop i = rd l (i : Int) :: l.drop (i + 1) := by
  rw [List.drop_eq_getElem_cons h, rd_nat l i h]
theorem take_rd (l : List Int) (i : Nat) (h : i < l.length) : l.take (i + 1) = l.take i ++ [rd l (i : Int)] := by
  rw [List.take_succ_eq_append_getElem h, rd_nat l i h]
theorem take_set_succ {α : Type} (l : List α) (i : Nat) (h : i < l.length) (v : α) : (l.set i v).take (i + 1) = l.take i ++ [v] := by
  rw [List.take_succ_eq_append_getElem (by simpa using h)]
  rw [List.getElem_set_self, List.take_set_of_le (Nat.le_refl i)]
theorem round {k d : Nat} (h : d < k) : ∃ m, k = m + 1 := ⟨k - 1, by omega⟩
def marks (a : Int) : Nat → List Int
  | 0 => []
  | n + 1 => a :: marks (a + 1) n
theorem marks_length (a : Int) (n : Nat) : (marks a n).length = n := by
  induction n generalizing a with
  | zero => rfl
  | succ n ih => simp [marks, ih]
theorem marks_rd (n : Nat) : ∀ (a : Int) (i : Nat), i < n → rd (marks a n) (i : Int) = a + i := by
  induction n with
  | zero => intro a i h; omega
  | succ n ih =>
    intro a i h
    cases i with
    | zero => simp [marks, rd]
    | succ i =>
      have := ih (a + 1) i (by omega)
      simp only [marks, rd, Int.toNat_natCast, List.getD_cons_succ] at this ⊢
      rw [this]
      push_cast
      omega
theorem marks_snoc (n : Nat) : ∀ (a : Int), marks a (n + 1) = marks a n ++ [a + n] := by
  induction n with
  | zero => intro a; simp [marks]
  | succ n ih =>
    intro a
    rw [marks, ih (a + 1)]
    simp only [marks, List.cons_append, List.cons.injEq, true_and]
    congr 2
    push_cast
    omega

end Go.Proofs.Ytligcknlmbgbiaa.Pure

namespace Go.Proofs.Ytligcknlmbgbiaa.Pure
open Go.RowKit Go.Proofs.Ytligcknlmbgbiaa.P Go.Proofs.YtligcknlmbgbiaaW.PrintWords Go.Proofs.YtligcknlmbgbiaaW.PrintLast Go.Proofs.Ytligcknlmbgbiaa.Opn
set_option linter.unusedVariables false
set_option linter.unusedSimpArgs false

theorem spec_in (a b c : Int) : spec_l1In.f a b c = some (decide (b ≤ a ∧ a ≤ c)) := by
  unfold spec_l1In.f
  by_cases h : a ≥ b
  · rw [if_pos h]
    by_cases h2 : a ≤ c
    · simp [h, h2]
    · simp [h2]
  · rw [if_neg h]
    have : ¬ b ≤ a := by omega
    simp [this]
theorem impl_in_ (a b c : Int) : impl_in.f a b c = some (decide (b ≤ a ∧ a ≤ c)) := spec_in a b c

end Go.Proofs.Ytligcknlmbgbiaa.Pure

namespace Go.Proofs.Ytligcknlmbgbiaa.Pure
open Go.RowKit Go.Proofs.Ytligcknlmbgbiaa.P Go.Proofs.YtligcknlmbgbiaaW.PrintWords Go.Proofs.YtligcknlmbgbiaaW.PrintLast Go.Proofs.Ytligcknlmbgbiaa.Opn
set_option linter.unusedVariables false
set_option linter.unusedSimpArgs false

def cvSpan (x : S62) : S59 := ⟨x.f0, x.f1⟩
theorem rdSpan (l : List S59) (i : Nat) (h : i < l.length) : rd_T59 l (i : Int) = l[i] := by
  simp [rd_T59, List.getD_eq_getElem?_getD, List.getElem?_eq_getElem h]
theorem rdLSpan (l : List S62) (i : Nat) (h : i < l.length) : rd_T62 l (i : Int) = l[i] := by
  simp [rd_T62, List.getD_eq_getElem?_getD, List.getElem?_eq_getElem h]
theorem drop_rdSpan (l : List S59) (i : Nat) (h : i < l.length) : l.drop i = rd_T59 l (i : Int) :: l.drop (i + 1) := by
  rw [List.drop_eq_getElem_cons h, rdSpan l i h]
theorem szSpanS_ok (l : List S62) (a : Int) (ha : 0 ≤ a) (ha2 : a ≤ 1048576) (h : (l.length : Int) ≤ a) : laws_szSpanS.f l a = some (a - l.length) := by
  unfold laws_szSpanS.f
  rw [wrap_id (by omega) (by omega), if_neg (by omega)]
theorem szSpanS_big (l : List S62) (a : Int) (ha : 0 ≤ a) (ha2 : a ≤ 1048576) (hl : l.length ≤ 9223372036854775807) (h : ¬ (l.length : Int) ≤ a) : laws_szSpanS.f l a = some (-1) := by
  unfold laws_szSpanS.f
  rw [wrap_id (by omega) (by omega), if_pos (by omega)]
theorem toSpanS_l0 (x : List S62) (hn : x.length ≤ 1048576) : ∀ (d k i : Nat) (y : List S59), i + d = x.length → d < k → y.length = x.length → y.take i = (x.map cvSpan).take i → laws_toSpanS.l0 k x y (i : Int) = some (x.map cvSpan) := by
  intro d
  induction d with
  | zero =>
    intro k i y hi hk hy ht
    obtain ⟨k, rfl⟩ := round hk
    simp only [laws_toSpanS.l0]
    rw [if_neg (by omega)]
    rw [List.take_of_length_le (by omega), List.take_of_length_le (by simp; omega)] at ht
    rw [ht]
  | succ d ih =>
    intro k i y hi hk hy ht
    obtain ⟨k, rfl⟩ := round hk
    simp only [laws_toSpanS.l0, laws_toSpan.f, Option.bind_some]
    rw [if_pos (by omega), if_pos (by omega), if_pos (by omega), wrap_id (by omega) (by omega), Int.toNat_natCast]
    have := ih k (i + 1) (y.set i (cvSpan (rd_T62 x i))) (by omega) (by omega) (by simpa using hy) (by
      rw [take_set_succ _ _ (by omega), ht, List.take_succ_eq_append_getElem (by simp; omega), rdLSpan x i (by omega), List.getElem_map])
    simpa [cvSpan] using this
theorem toSpanS (x : List S62) (hn : x.length ≤ 1048576) (k : Nat) (hk : x.length < k) : laws_toSpanS.f k x = some (x.map cvSpan) := by
  unfold laws_toSpanS.f
  rw [if_pos (by omega), if_pos (by omega), Int.toNat_natCast]
  exact toSpanS_l0 x hn x.length k 0 _ (by omega) hk (by simp) (by simp)
theorem eqSpan_refl (x : S59) : laws_eqSpan.f x.f0 x.f1 x.f0 x.f1 = some true := by
  unfold laws_eqSpan.f
  simp
theorem eqSpanS_l0 (x : List S59) (hn : x.length ≤ 1048576) : ∀ (d k i : Nat), i + d = x.length → d < k → laws_eqSpanS.l0 k x x (i : Int) = some true := by
  intro d
  induction d with
  | zero =>
    intro k i hi hk
    obtain ⟨k, rfl⟩ := round hk
    simp only [laws_eqSpanS.l0]
    rw [if_neg (by omega)]
  | succ d ih =>
    intro k i hi hk
    obtain ⟨k, rfl⟩ := round hk
    simp only [laws_eqSpanS.l0]
    rw [if_pos (by omega), if_pos (by omega), if_pos (by omega), eqSpan_refl, Option.bind_some, if_pos rfl, wrap_id (by omega) (by omega)]
    have := ih k (i + 1) (by omega) (by omega)
    simpa using this
theorem eqSpanS (x : List S59) (hn : x.length ≤ 1048576) (k : Nat) (hk : x.length < k) : laws_eqSpanS.f k x x = some true := by
  unfold laws_eqSpanS.f
  rw [if_pos rfl]
  exact eqSpanS_l0 x hn x.length k 0 (by omega) hk

end Go.Proofs.Ytligcknlmbgbiaa.Pure

namespace Go.Proofs.Ytligcknlmbgbiaa.Pure
open Go.RowKit Go.Proofs.Ytligcknlmbgbiaa.P Go.Proofs.YtligcknlmbgbiaaW.PrintWords Go.Proofs.YtligcknlmbgbiaaW.PrintLast Go.Proofs.Ytligcknlmbgbiaa.Opn
set_option linter.unusedVariables false
set_option linter.unusedSimpArgs false

abbrev Sp := S59
def isSp (x : Sp) : Bool := decide (0 ≤ x.f0) && (decide (x.f0 < x.f1) && decide (x.f1 ≤ 1000000))
theorem spec_isSp (x : Sp) : spec_l2Span.f x.f0 x.f1 = some (isSp x) := by
  unfold spec_l2Span.f isSp
  by_cases h : x.f0 ≥ 0
  · have h' : 0 ≤ x.f0 := h
    by_cases h2 : x.f0 < x.f1
    · simp [h', h2]
    · simp [h2]
  · have h' : ¬ 0 ≤ x.f0 := h
    simp [h']
theorem impl_isSp (x : Sp) : impl_isSpan.f x.f0 x.f1 = some (isSp x) := spec_isSp x
def aft (p : Option Int) (x : Int) : Bool := match p with
  | none => true
  | some q => decide (q < x)
def spOk : Option Int → List Sp → Bool
  | _, [] => true
  | p, x :: l => isSp x && (aft p x.f0 && spOk (some x.f1) l)
def pvS (l : List Sp) (i : Nat) : Option Int := if i = 0 then none else some (rd_T59 l ((i - 1 : Nat) : Int)).f1
theorem pvS_succ (l : List Sp) (i : Nat) : pvS l (i + 1) = some (rd_T59 l (i : Int)).f1 := by simp [pvS]
theorem goodSpans_l0 (l : List Sp) (hn : l.length ≤ 1048576) : ∀ (d k i : Nat), i + d = l.length → d < k → spec_GoodSpans.l0 k l l (l.length : Int) (i : Int) = some (spOk (pvS l i) (l.drop i) && decide ((l.length : Int) ≤ 20)) := by
  intro d
  induction d with
  | zero =>
    intro k i h hk
    obtain ⟨k, rfl⟩ := round hk
    rw [spec_GoodSpans.l0, if_neg (by omega), List.drop_of_length_le (by omega)]
    simp [spOk]
  | succ d ih =>
    intro k i h hk
    obtain ⟨k, rfl⟩ := round hk
    have := ih k (i + 1) (by omega) (by omega)
    rw [spec_GoodSpans.l0, if_pos (by omega), if_pos (by omega), if_pos (by omega), spec_isSp, Option.bind_some, drop_rdSpan l i (by omega), spOk, wrap_id (x := (i : Int) + 1) (by omega) (by omega)]
    rw [pvS_succ] at this
    have e : ((i + 1 : Nat) : Int) = (i : Int) + 1 := by omega
    rw [e] at this
    rw [this]
    cases hs : isSp (rd_T59 l (i : Int)) with
    | false => simp
    | true =>
      rw [if_pos rfl]
      by_cases h0 : i = 0
      · subst h0
        simp [pvS, aft]
      · have e1 : wrap64 ((i : Int) - 1) = ((i - 1 : Nat) : Int) := by rw [wrap_id (by omega) (by omega)]; omega
        rw [if_pos (by omega), e1, if_pos (by omega), if_pos (by omega)]
        unfold pvS
        rw [if_neg h0]
        by_cases hq : (rd_T59 l ((i - 1 : Nat) : Int)).f1 ≥ (rd_T59 l (i : Int)).f0
        · rw [if_pos hq]
          have : ¬ (rd_T59 l ((i - 1 : Nat) : Int)).f1 < (rd_T59 l (i : Int)).f0 := by omega
          simp [aft, this]
        · rw [if_neg hq]
          have : (rd_T59 l ((i - 1 : Nat) : Int)).f1 < (rd_T59 l (i : Int)).f0 := by omega
          simp [aft, this]
theorem areSpans_l0 (l : List Sp) (hn : l.length ≤ 1048576) : ∀ (d k i : Nat), i + d = l.length → d < k → impl_areSpans.l0 k l l (l.length : Int) (i : Int) = some (spOk (pvS l i) (l.drop i)) := by
  intro d
  induction d with
  | zero =>
    intro k i h hk
    obtain ⟨k, rfl⟩ := round hk
    rw [impl_areSpans.l0, if_neg (by omega), List.drop_of_length_le (by omega)]
    simp [spOk]
  | succ d ih =>
    intro k i h hk
    obtain ⟨k, rfl⟩ := round hk
    have := ih k (i + 1) (by omega) (by omega)
    rw [impl_areSpans.l0, if_pos (by omega), if_pos (by omega), if_pos (by omega), impl_isSp, Option.bind_some, drop_rdSpan l i (by omega), spOk, wrap_id (x := (i : Int) + 1) (by omega) (by omega)]
    rw [pvS_succ] at this
    have e : ((i + 1 : Nat) : Int) = (i : Int) + 1 := by omega
    rw [e] at this
    rw [this]
    cases hs : isSp (rd_T59 l (i : Int)) with
    | false => simp
    | true =>
      rw [if_pos rfl]
      by_cases h0 : i = 0
      · subst h0
        simp [pvS, aft]
      · have e1 : wrap64 ((i : Int) - 1) = ((i - 1 : Nat) : Int) := by rw [wrap_id (by omega) (by omega)]; omega
        rw [if_pos (by omega), e1, if_pos (by omega), if_pos (by omega)]
        unfold pvS
        rw [if_neg h0]
        by_cases hq : (rd_T59 l (i : Int)).f0 ≤ (rd_T59 l ((i - 1 : Nat) : Int)).f1
        · rw [if_pos hq]
          have : ¬ (rd_T59 l ((i - 1 : Nat) : Int)).f1 < (rd_T59 l (i : Int)).f0 := by omega
          simp [aft, this]
        · rw [if_neg hq]
          have : (rd_T59 l ((i - 1 : Nat) : Int)).f1 < (rd_T59 l (i : Int)).f0 := by omega
          simp [aft, this]
def goodSp (l : List Sp) : Bool := spOk none l && decide ((l.length : Int) ≤ 20)
theorem spec_goodSp (l : List Sp) (hn : l.length ≤ 1048576) (k : Nat) (hk : l.length < k) : spec_GoodSpans.f k l = some (goodSp l) := by
  unfold spec_GoodSpans.f
  have := goodSpans_l0 l hn l.length k 0 (by omega) hk
  simpa [pvS, goodSp] using this
theorem impl_goodSp (l : List Sp) (hn : l.length ≤ 1048576) (k : Nat) (hk : l.length < k) : impl_areSpans.f k l = some (goodSp l) := by
  unfold impl_areSpans.f goodSp
  have := areSpans_l0 l hn l.length k 0 (by omega) hk
  by_cases h : (l.length : Int) > 20
  · have h' : ¬ (l.length : Int) ≤ 20 := by omega
    simp [h, h']
  · have h' : (l.length : Int) ≤ 20 := by omega
    rw [if_neg h]
    simpa [pvS, h'] using this
def belowSp (l : List Sp) (a : Int) : Bool := goodSp l && (decide (l.length = 0) || decide ((rd_T59 l ((l.length : Int) - 1)).f1 ≤ a))
theorem spec_below (l : List Sp) (a : Int) (hn : l.length ≤ 1048576) (k : Nat) (hk : l.length < k) : spec_l11Below.f k l a = some (belowSp l a) := by
  unfold spec_l11Below.f belowSp
  rw [spec_goodSp l hn k hk, Option.bind_some, wrap_id (x := (l.length : Int) - 1) (by omega) (by omega)]
  cases goodSp l with
  | false => simp
  | true =>
    rw [if_pos rfl]
    by_cases h0 : l.length = 0
    · rw [if_pos (by omega)]
      simp [h0]
    · rw [if_neg (by omega), if_pos (by omega), if_pos (by omega)]
      simp only [h0, decide_false, Bool.false_or, Bool.true_and]
theorem impl_below (l : List Sp) (a : Int) (hn : l.length ≤ 1048576) (k : Nat) (hk : l.length < k) : impl_areBelow.f k l a = some (belowSp l a) := by
  unfold impl_areBelow.f belowSp
  rw [impl_goodSp l hn k hk, Option.bind_some, wrap_id (x := (l.length : Int) - 1) (by omega) (by omega)]
  cases goodSp l with
  | false => simp
  | true =>
    rw [if_pos rfl]
    by_cases h0 : l.length = 0
    · rw [if_pos (by omega)]
      simp [h0]
    · rw [if_neg (by omega), if_pos (by omega), if_pos (by omega)]
      simp only [h0, decide_false, Bool.false_or, Bool.true_and]
theorem l2Has_l0 (l : List Sp) (n : Int) (hn : l.length ≤ 1048576) : ∀ (d k i : Nat), i + d = l.length → d < k → spec_l2Has.l0 k n l (l.length : Int) (i : Int) = some ((l.drop i).any (inSpan n)) := by
  intro d
  induction d with
  | zero =>
    intro k i h hk
    obtain ⟨k, rfl⟩ := round hk
    rw [spec_l2Has.l0, if_neg (by omega), List.drop_of_length_le (by omega)]
    rfl
  | succ d ih =>
    intro k i h hk
    obtain ⟨k, rfl⟩ := round hk
    have := ih k (i + 1) (by omega) (by omega)
    have e : ((i + 1 : Nat) : Int) = (i : Int) + 1 := by omega
    rw [e] at this
    rw [spec_l2Has.l0, if_pos (by omega), if_pos (by omega), if_pos (by omega), drop_rdSpan l i (by omega), List.any_cons, wrap_id (x := (i : Int) + 1) (by omega) (by omega), this]
    unfold inSpan
    by_cases h1 : n ≥ (rd_T59 l (i : Int)).f0
    · by_cases h2 : n < (rd_T59 l (i : Int)).f1
      · rw [if_pos h1, if_pos h2]
        simp [h1, h2]
      · rw [if_pos h1, if_neg h2]
        simp [h2]
    · rw [if_neg h1]
      simp [h1]
theorem l2Has (l : List Sp) (n : Int) (hn : l.length ≤ 1048576) (k : Nat) (hk : l.length < k) : spec_l2Has.f k l n = some (l.any (inSpan n)) := by
  unfold spec_l2Has.f
  have := l2Has_l0 l n hn l.length k 0 (by omega) hk
  simpa using this

end Go.Proofs.Ytligcknlmbgbiaa.Pure

namespace Go.Proofs.Ytligcknlmbgbiaa.Pure
open Go.RowKit Go.Proofs.Ytligcknlmbgbiaa.P Go.Proofs.YtligcknlmbgbiaaW.PrintWords Go.Proofs.YtligcknlmbgbiaaW.PrintLast Go.Proofs.Ytligcknlmbgbiaa.Opn
set_option linter.unusedVariables false
set_option linter.unusedSimpArgs false

theorem toIntS_l0 (x : List Int) (hn : x.length ≤ 1048576) : ∀ (d k i : Nat) (y : List Int), i + d = x.length → d < k → y.length = x.length → y.take i = x.take i → laws_toIntS.l0 k x y (i : Int) = some x := by
  intro d
  induction d with
  | zero =>
    intro k i y hi hk hy ht
    obtain ⟨k, rfl⟩ := round hk
    simp only [laws_toIntS.l0]
    rw [if_neg (by omega)]
    have : i = x.length := by omega
    subst this
    rw [List.take_length, ← hy, List.take_length] at ht
    rw [ht]
  | succ d ih =>
    intro k i y hi hk hy ht
    obtain ⟨k, rfl⟩ := round hk
    simp only [laws_toIntS.l0]
    rw [if_pos (by omega), if_pos (by omega), if_pos (by omega), wrap_id (by omega) (by omega), Int.toNat_natCast]
    have := ih k (i + 1) (y.set i (rd x i)) (by omega) (by omega) (by simpa using hy) (by rw [take_set_succ _ _ (by omega), ht, take_rd _ _ (by omega)])
    simpa using this
theorem toIntS (x : List Int) (hn : x.length ≤ 1048576) (k : Nat) (hk : x.length < k) : laws_toIntS.f k x = some x := by
  unfold laws_toIntS.f
  rw [if_pos (by omega), if_pos (by omega), Int.toNat_natCast]
  exact toIntS_l0 x hn x.length k 0 _ (by omega) hk (by simp) (by simp)
theorem eqIntS_l0 (x y : List Int) (hn : x.length ≤ 1048576) (he : x.length = y.length) : ∀ (d k i : Nat), i + d = x.length → d < k → x.take i = y.take i → laws_eqIntS.l0 k x y (i : Int) = some (decide (x = y)) := by
  intro d
  induction d with
  | zero =>
    intro k i hi hk ht
    obtain ⟨k, rfl⟩ := round hk
    simp only [laws_eqIntS.l0]
    rw [if_neg (by omega)]
    have : i = x.length := by omega
    subst this
    rw [List.take_length, he, List.take_length] at ht
    simp [ht]
  | succ d ih =>
    intro k i hi hk ht
    obtain ⟨k, rfl⟩ := round hk
    simp only [laws_eqIntS.l0]
    rw [if_pos (by omega), if_pos (by omega), if_pos (by omega)]
    by_cases hc : rd x (i : Int) = rd y (i : Int)
    · rw [if_pos hc, wrap_id (by omega) (by omega)]
      have := ih k (i + 1) (by omega) (by omega) (by rw [take_rd _ _ (by omega), take_rd _ _ (by omega), ht, hc])
      simpa using this
    · rw [if_neg hc]
      have : x ≠ y := by rintro rfl; exact hc rfl
      simp [this]
theorem eqIntS (x y : List Int) (hn : x.length ≤ 1048576) (k : Nat) (hk : x.length < k) : laws_eqIntS.f k x y = some (decide (x = y)) := by
  unfold laws_eqIntS.f
  by_cases he : x.length = y.length
  · rw [if_pos (by omega)]
    exact eqIntS_l0 x y hn he x.length k 0 (by omega) hk (by simp)
  · rw [if_neg (by omega)]
    have : x ≠ y := by rintro rfl; exact he rfl
    simp [this]

end Go.Proofs.Ytligcknlmbgbiaa.Pure

namespace Go.Proofs.Ytligcknlmbgbiaa.Pure
open Go.RowKit Go.Proofs.Ytligcknlmbgbiaa.P Go.Proofs.YtligcknlmbgbiaaW.PrintWords Go.Proofs.YtligcknlmbgbiaaW.PrintLast Go.Proofs.Ytligcknlmbgbiaa.Opn
set_option linter.unusedVariables false
set_option linter.unusedSimpArgs false

theorem szIntS (l : List Int) (a : Int) (ha : 0 ≤ a) (ha2 : a ≤ 1048576) (hl : l.length ≤ 9223372036854775807) : laws_szIntS.f l a = some (if (l.length : Int) ≤ a then a - l.length else -1) := by
  unfold laws_szIntS.f
  rw [wrap_id (by omega) (by omega)]
  by_cases h : (l.length : Int) ≤ a
  · rw [if_neg (by omega), if_pos h]
  · rw [if_pos (by omega), if_neg h]

end Go.Proofs.Ytligcknlmbgbiaa.Pure

namespace Go.Proofs.Ytligcknlmbgbiaa.Pure
open Go.RowKit Go.Proofs.Ytligcknlmbgbiaa.P Go.Proofs.YtligcknlmbgbiaaW.PrintWords Go.Proofs.YtligcknlmbgbiaaW.PrintLast Go.Proofs.Ytligcknlmbgbiaa.Opn
set_option linter.unusedVariables false
set_option linter.unusedSimpArgs false

theorem szSender_ok (a : Int) (l1 : List S62) (l2 : List Int) (h : (l1.length : Int) + l2.length ≤ 1048576) : laws_szSender.f a l1 l2 1048576 = some (1048576 - (l1.length : Int) - (l2.length : Int)) := by
  unfold laws_szSender.f
  rw [szSpanS_ok l1 _ (by omega) (by omega) (by omega), Option.bind_some, if_neg (by omega), szIntS l2 _ (by omega) (by omega) (by omega), if_pos (by omega), Option.bind_some, if_neg (by omega)]
theorem szSender_big (a : Int) (l1 : List S62) (l2 : List Int) (h1 : l1.length ≤ 9223372036854775807) (h2 : l2.length ≤ 9223372036854775807) (h : ¬ (l1.length : Int) + l2.length ≤ 1048576) : laws_szSender.f a l1 l2 1048576 = some (-1) := by
  unfold laws_szSender.f
  by_cases hc : (l1.length : Int) ≤ 1048576
  · rw [szSpanS_ok l1 _ (by omega) (by omega) (by omega), Option.bind_some, if_neg (by omega), szIntS l2 _ (by omega) (by omega) h2, if_neg (by omega), Option.bind_some, if_pos (by omega)]
  · rw [szSpanS_big l1 _ (by omega) (by omega) h1 (by omega), Option.bind_some, if_pos (by omega)]
theorem toSender (a : Int) (l1 : List S62) (l2 : List Int) (h1 : l1.length ≤ 1048576) (h2 : l2.length ≤ 1048576) (k : Nat) (hk1 : l1.length < k) (hk2 : l2.length < k) : laws_toSender.f k a l1 l2 = some (a, l1.map cvSpan, l2) := by
  unfold laws_toSender.f
  rw [toSpanS l1 h1 k hk1, Option.bind_some, toIntS l2 h2 k hk2, Option.bind_some]
theorem eqSender (a : Int) (l1 : List Sp) (l2 : List Int) (h1 : l1.length ≤ 1048576) (h2 : l2.length ≤ 1048576) (k : Nat) (hk1 : l1.length < k) (hk2 : l2.length < k) : laws_eqSender.f k a l1 l2 a l1 l2 = some true := by
  unfold laws_eqSender.f
  rw [if_pos rfl, eqSpanS l1 h1 k hk1, Option.bind_some, if_pos rfl, eqIntS l2 l2 h2 k hk2, Option.bind_some]
  simp
def risOk (m : Int) : Option Int → List Int → Bool
  | _, [] => true
  | p, x :: l => decide (0 ≤ x ∧ x ≤ m) && (aft p x && risOk m (some x) l)
def pvI (l : List Int) (i : Nat) : Option Int := if i = 0 then none else some (rd l ((i - 1 : Nat) : Int))
theorem pvI_succ (l : List Int) (i : Nat) : pvI l (i + 1) = some (rd l (i : Int)) := by simp [pvI]
theorem rising_l0 (l : List Int) (a : Int) (hn : l.length ≤ 1048576) : ∀ (d k i : Nat), i + d = l.length → d < k → spec_l11Rising.l0 k l a l (l.length : Int) (i : Int) = some (risOk (wrap64 (a - 1)) (pvI l i) (l.drop i)) := by
  intro d
  induction d with
  | zero =>
    intro k i h hk
    obtain ⟨k, rfl⟩ := round hk
    rw [spec_l11Rising.l0, if_neg (by omega), List.drop_of_length_le (by omega)]
    rfl
  | succ d ih =>
    intro k i h hk
    obtain ⟨k, rfl⟩ := round hk
    have := ih k (i + 1) (by omega) (by omega)
    rw [spec_l11Rising.l0, if_pos (by omega), if_pos (by omega), if_pos (by omega), spec_in, Option.bind_some, drop_rd l i (by omega), risOk, wrap_id (x := (i : Int) + 1) (by omega) (by omega)]
    have e : ((i + 1 : Nat) : Int) = (i : Int) + 1 := by omega
    rw [pvI_succ, e] at this
    rw [this]
    by_cases hs : 0 ≤ rd l (i : Int) ∧ rd l (i : Int) ≤ wrap64 (a - 1)
    · rw [if_pos (by simpa using hs)]
      by_cases h0 : i = 0
      · subst h0
        simp only [hs, and_self, decide_true, Bool.true_and]
        simp [pvI, aft]
      · have e1 : wrap64 ((i : Int) - 1) = ((i - 1 : Nat) : Int) := by rw [wrap_id (by omega) (by omega)]; omega
        rw [if_pos (by omega), e1, if_pos (by omega), if_pos (by omega)]
        unfold pvI
        rw [if_neg h0]
        simp only [hs, and_self, decide_true, Bool.true_and, aft]
        by_cases hq : rd l ((i - 1 : Nat) : Int) ≥ rd l (i : Int)
        · rw [if_pos hq]
          have : ¬ rd l ((i - 1 : Nat) : Int) < rd l (i : Int) := by omega
          simp [this]
        · rw [if_neg hq]
          have : rd l ((i - 1 : Nat) : Int) < rd l (i : Int) := by omega
          simp [this]
    · rw [if_neg (by simpa using hs)]
      simp [hs]
theorem spec_rising (l : List Int) (a : Int) (hn : l.length ≤ 1048576) (k : Nat) (hk : l.length < k) : spec_l11Rising.f k l a = some (risOk (wrap64 (a - 1)) none l) := by
  unfold spec_l11Rising.f
  have := rising_l0 l a hn l.length k 0 (by omega) hk
  simpa [pvI] using this
theorem specSender_l0 (a : Int) (l1 : List Sp) (l : List Int) (h1 : l1.length ≤ 1048576) (hn : l.length ≤ 1048576) : ∀ (d k i : Nat), i + d = l.length → d + l1.length + 1 < k → spec_GoodSender.l0 k l (l.length : Int) (i : Int) a l1 l = some ((l.drop i).all (fun n => !l1.any (inSpan n))) := by
  intro d
  induction d with
  | zero =>
    intro k i h hk
    obtain ⟨k, rfl⟩ := round hk
    rw [spec_GoodSender.l0, if_neg (by omega), List.drop_of_length_le (by omega)]
    rfl
  | succ d ih =>
    intro k i h hk
    obtain ⟨k, rfl⟩ := round hk
    have := ih k (i + 1) (by omega) (by omega)
    have e : ((i + 1 : Nat) : Int) = (i : Int) + 1 := by omega
    rw [e] at this
    rw [spec_GoodSender.l0, if_pos (by omega), if_pos (by omega), if_pos (by omega), l2Has l1 _ h1 k (by omega), Option.bind_some, drop_rd l i (by omega), List.all_cons, wrap_id (x := (i : Int) + 1) (by omega) (by omega), this]
    cases l1.any (inSpan (rd l (i : Int))) <;> simp
theorem implSender_l0 (a : Int) (l1 : List Sp) (l : List Int) (h1 : l1.length ≤ 1048576) (hn : l.length ≤ 1048576) : ∀ (d k i : Nat), i + d = l.length → d < k → impl_GoodSender.l0 k l (l.length : Int) (i : Int) a l1 l = some (risOk (wrap64 (a - 1)) (pvI l i) (l.drop i) && (l.drop i).all (fun n => !l1.any (inSpan n))) := by
  intro d
  induction d with
  | zero =>
    intro k i h hk
    obtain ⟨k, rfl⟩ := round hk
    rw [impl_GoodSender.l0, if_neg (by omega), List.drop_of_length_le (by omega)]
    rfl
  | succ d ih =>
    intro k i h hk
    obtain ⟨k, rfl⟩ := round hk
    have := ih k (i + 1) (by omega) (by omega)
    have e : ((i + 1 : Nat) : Int) = (i : Int) + 1 := by omega
    rw [pvI_succ, e] at this
    rw [impl_GoodSender.l0, if_pos (by omega), if_pos (by omega), if_pos (by omega), impl_in_, Option.bind_some, drop_rd l i (by omega), List.all_cons, risOk, wrap_id (x := (i : Int) + 1) (by omega) (by omega), this]
    unfold impl_has.f
    simp only [Option.bind_some]
    by_cases hs : 0 ≤ rd l (i : Int) ∧ rd l (i : Int) ≤ wrap64 (a - 1)
    · rw [if_pos (by simpa using hs)]
      simp only [hs, and_self, decide_true, Bool.true_and]
      cases hh : l1.any (inSpan (rd l (i : Int))) with
      | true => simp
      | false =>
        rw [if_neg (by simp)]
        by_cases h0 : i = 0
        · subst h0
          simp [pvI, aft]
        · have e1 : wrap64 ((i : Int) - 1) = ((i - 1 : Nat) : Int) := by rw [wrap_id (by omega) (by omega)]; omega
          rw [if_pos (by omega), e1, if_pos (by omega), if_pos (by omega)]
          unfold pvI
          rw [if_neg h0]
          simp only [aft]
          by_cases hq : rd l (i : Int) ≤ rd l ((i - 1 : Nat) : Int)
          · rw [if_pos hq]
            have : ¬ rd l ((i - 1 : Nat) : Int) < rd l (i : Int) := by omega
            simp [this]
          · rw [if_neg hq]
            have : rd l ((i - 1 : Nat) : Int) < rd l (i : Int) := by omega
            simp [this]
    · rw [if_neg (by simpa using hs)]
      simp [hs]
def goodSe (a : Int) (l1 : List Sp) (l : List Int) : Bool := decide (0 ≤ a ∧ a ≤ 60) && (belowSp l1 a && (risOk (wrap64 (a - 1)) none l && l.all (fun n => !l1.any (inSpan n))))
theorem spec_goodSe (a : Int) (l1 : List Sp) (l : List Int) (h1 : l1.length ≤ 1048576) (hn : l.length ≤ 1048576) (k : Nat) (hk : l.length + l1.length + 2 < k) : spec_GoodSender.f k a l1 l = some (goodSe a l1 l) := by
  obtain ⟨k, rfl⟩ := round hk
  unfold spec_GoodSender.f goodSe
  have h0 := specSender_l0 a l1 l h1 hn l.length k 0 (by omega) (by omega)
  have h0' : spec_GoodSender.l0 k l (l.length : Int) 0 a l1 l = some (l.all (fun n => !l1.any (inSpan n))) := by simpa using h0
  simp only [spec_in, Option.bind_some, spec_below l1 a h1 (k + 1) (by omega), spec_rising l a hn (k + 1) (by omega), spec_GoodSender.j0, h0', if_true]
  by_cases h : 0 ≤ a ∧ a ≤ 60
  · simp only [h, and_self, decide_true, if_true, Bool.true_and]
    cases belowSp l1 a <;> cases risOk (wrap64 (a - 1)) none l <;> simp
  · simp [h]
theorem impl_goodSe (a : Int) (l1 : List Sp) (l : List Int) (h1 : l1.length ≤ 1048576) (hn : l.length ≤ 1048576) (k : Nat) (hk : l.length + l1.length + 2 < k) : impl_GoodSender.f k a l1 l = some (goodSe a l1 l) := by
  obtain ⟨k, rfl⟩ := round hk
  unfold impl_GoodSender.f goodSe
  have h0 := implSender_l0 a l1 l h1 hn l.length k 0 (by omega) (by omega)
  have h0' : impl_GoodSender.l0 k l (l.length : Int) 0 a l1 l = some (risOk (wrap64 (a - 1)) none l && l.all (fun n => !l1.any (inSpan n))) := by simpa [pvI] using h0
  simp only [impl_in_, Option.bind_some, impl_below l1 a h1 (k + 1) (by omega), impl_GoodSender.j0, h0', if_true]
  by_cases h : 0 ≤ a ∧ a ≤ 60
  · simp only [h, and_self, decide_true, if_true, Bool.true_and]
    cases belowSp l1 a <;> simp
  · simp [h]

end Go.Proofs.Ytligcknlmbgbiaa.Pure

namespace Go.Proofs.Ytligcknlmbgbiaa.Pure
open Go.RowKit Go.Proofs.Ytligcknlmbgbiaa.P Go.Proofs.YtligcknlmbgbiaaW.PrintWords Go.Proofs.YtligcknlmbgbiaaW.PrintLast Go.Proofs.Ytligcknlmbgbiaa.Opn
set_option linter.unusedVariables false
set_option linter.unusedSimpArgs false

def mkSpan (a : Int) (n : Nat) : List S59 := (List.range n).map fun i : Nat => ⟨a + 2 * (i : Int), a + 2 * (i : Int) + 1⟩
theorem mkSpan_length (a : Int) (n : Nat) : (mkSpan a n).length = n := by simp [mkSpan]
theorem mkSpan_snoc (a : Int) (n : Nat) : mkSpan a (n + 1) = mkSpan a n ++ [(fun i : Nat => (⟨a + 2 * (i : Int), a + 2 * (i : Int) + 1⟩ : S59)) n] := by
  unfold mkSpan
  rw [List.range_succ, List.map_append]
  rfl
theorem mkSpan_rd (a : Int) (n i : Nat) (h : i < n) : rd_T59 (mkSpan a n) (i : Int) = (fun i : Nat => (⟨a + 2 * (i : Int), a + 2 * (i : Int) + 1⟩ : S59)) i := by
  rw [rdSpan _ _ (by rw [mkSpan_length]; exact h)]
  simp [mkSpan]
theorem rd_setSpan (l : List S59) (i : Nat) (v : S59) (h : i < l.length) : rd_T59 (l.set i v) (i : Int) = v := by
  rw [rdSpan _ _ (by simpa using h)]
  simp
theorem markSpanS_l0 (n : Nat) (a : Int) (ha : 0 ≤ a) (hb : a + 2 * n ≤ 1000000000) : ∀ (d k i : Nat) (y : List S59), i + d = n → d < k → y.length = n → y.take i = mkSpan a i → laws_markSpanS.l0 k y (a + 2 * i) (i : Int) = some (a + 2 * n, mkSpan a n) := by
  intro d
  induction d with
  | zero =>
    intro k i y hi hk hy ht
    obtain ⟨k, rfl⟩ := round hk
    simp only [laws_markSpanS.l0]
    rw [if_neg (by omega)]
    have : i = n := by omega
    subst this
    rw [List.take_of_length_le (by omega)] at ht
    rw [ht]
  | succ d ih =>
    intro k i y hi hk hy ht
    obtain ⟨k, rfl⟩ := round hk
    simp only [laws_markSpanS.l0, Option.bind_some, Int.toNat_natCast, rd_setSpan _ _ _ (show i < y.length by omega), List.set_set, wrap_id (x := a + 2 * (i : Int) + 1) (by omega) (by omega), wrap_id (x := a + 2 * (i : Int) + 1 + 1) (by omega) (by omega)]
    rw [if_pos (by omega), if_pos (by omega), wrap_id (x := (i : Int) + 1) (by omega) (by omega)]
    have := ih k (i + 1) (y.set i ((fun i : Nat => (⟨a + 2 * (i : Int), a + 2 * (i : Int) + 1⟩ : S59)) i)) (by omega) (by omega) (by simpa using hy) (by rw [take_set_succ _ _ (by omega), ht, mkSpan_snoc])
    rw [show a + 2 * (i : Int) + 1 + 1 = a + 2 * ((i + 1 : Nat) : Int) by push_cast; omega]
    simpa using this
theorem markSpanS (y : List S59) (a : Int) (ha : 0 ≤ a) (hb : a + 2 * y.length ≤ 1000000000) (k : Nat) (hk : y.length < k) : laws_markSpanS.f k y a = some (a + 2 * y.length, mkSpan a y.length) := by
  unfold laws_markSpanS.f
  have := markSpanS_l0 y.length a ha hb y.length k 0 y (by omega) hk rfl (by simp [mkSpan])
  simpa using this
theorem heldSpanS_l0 (n : Nat) (a : Int) (ha : 0 ≤ a) (hb : a + 2 * n ≤ 1000000000) : ∀ (d k i : Nat), i + d = n → d < k → laws_heldSpanS.l0 k (mkSpan a n) (a + 2 * i) (i : Int) = some (a + 2 * n) := by
  intro d
  induction d with
  | zero =>
    intro k i hi hk
    obtain ⟨k, rfl⟩ := round hk
    simp only [laws_heldSpanS.l0]
    rw [if_neg (by rw [mkSpan_length]; omega)]
    have : i = n := by omega
    subst this
    rfl
  | succ d ih =>
    intro k i hi hk
    obtain ⟨k, rfl⟩ := round hk
    simp only [laws_heldSpanS.l0, mkSpan_rd a n i (by omega), wrap_id (x := a + 2 * (i : Int) + 1) (by omega) (by omega), wrap_id (x := a + 2 * (i : Int) + 1 + 1) (by omega) (by omega)]
    rw [if_pos (by rw [mkSpan_length]; omega), if_pos (by omega)]
    have := ih k (i + 1) (by omega) (by omega)
    rw [wrap_id (x := (i : Int) + 1) (by omega) (by omega), show a + 2 * (i : Int) + 1 + 1 = a + 2 * ((i + 1 : Nat) : Int) by push_cast; omega]
    simpa using this
theorem heldSpanS (n : Nat) (a : Int) (ha : 0 ≤ a) (hb : a + 2 * n ≤ 1000000000) (k : Nat) (hk : n < k) : laws_heldSpanS.f k (mkSpan a n) a = some (a + 2 * n) := by
  unfold laws_heldSpanS.f
  have := heldSpanS_l0 n a ha hb n k 0 (by omega) hk
  simpa using this

end Go.Proofs.Ytligcknlmbgbiaa.Pure

namespace Go.Proofs.Ytligcknlmbgbiaa.Pure
open Go.RowKit Go.Proofs.Ytligcknlmbgbiaa.P Go.Proofs.YtligcknlmbgbiaaW.PrintWords Go.Proofs.YtligcknlmbgbiaaW.PrintLast Go.Proofs.Ytligcknlmbgbiaa.Opn
set_option linter.unusedVariables false
set_option linter.unusedSimpArgs false

theorem markIntS_l0 (n : Nat) (a : Int) (ha : 0 ≤ a) (hb : a + n ≤ 1000000000) : ∀ (d k i : Nat) (y : List Int), i + d = n → d < k → y.length = n → y.take i = marks a i → laws_markIntS.l0 k y (a + i) (i : Int) = some (a + n, marks a n) := by
  intro d
  induction d with
  | zero =>
    intro k i y hi hk hy ht
    obtain ⟨k, rfl⟩ := round hk
    simp only [laws_markIntS.l0]
    rw [if_neg (by omega)]
    have : i = n := by omega
    subst this
    rw [← hy, List.take_length] at ht
    rw [ht, hy]
  | succ d ih =>
    intro k i y hi hk hy ht
    obtain ⟨k, rfl⟩ := round hk
    simp only [laws_markIntS.l0]
    rw [if_pos (by omega), if_pos (by omega), wrap_id (by omega) (by omega), wrap_id (by omega) (by omega), Int.toNat_natCast]
    have := ih k (i + 1) (y.set i (a + i)) (by omega) (by omega) (by simpa using hy) (by rw [take_set_succ _ _ (by omega), ht, marks_snoc])
    rw [show a + (i : Int) + 1 = a + ((i + 1 : Nat) : Int) by push_cast; omega]
    simpa using this
theorem markIntS (y : List Int) (a : Int) (ha : 0 ≤ a) (hb : a + y.length ≤ 1000000000) (k : Nat) (hk : y.length < k) : laws_markIntS.f k y a = some (a + y.length, marks a y.length) := by
  unfold laws_markIntS.f
  have := markIntS_l0 y.length a ha hb y.length k 0 y (by omega) hk rfl (by simp [marks])
  simpa using this
theorem heldIntS_l0 (n : Nat) (a : Int) (ha : 0 ≤ a) (hb : a + n ≤ 1000000000) : ∀ (d k i : Nat), i + d = n → d < k → laws_heldIntS.l0 k (marks a n) (a + i) (i : Int) = some (a + n) := by
  intro d
  induction d with
  | zero =>
    intro k i hi hk
    obtain ⟨k, rfl⟩ := round hk
    simp only [laws_heldIntS.l0]
    rw [if_neg (by rw [marks_length]; omega)]
    have : i = n := by omega
    subst this
    rfl
  | succ d ih =>
    intro k i hi hk
    obtain ⟨k, rfl⟩ := round hk
    simp only [laws_heldIntS.l0]
    rw [if_pos (by rw [marks_length]; omega), if_pos (by omega), marks_rd n a i (by omega), if_pos rfl, wrap_id (by omega) (by omega), wrap_id (by omega) (by omega)]
    have := ih k (i + 1) (by omega) (by omega)
    rw [show a + (i : Int) + 1 = a + ((i + 1 : Nat) : Int) by push_cast; omega]
    simpa using this
theorem heldIntS (n : Nat) (a : Int) (ha : 0 ≤ a) (hb : a + n ≤ 1000000000) (k : Nat) (hk : n < k) : laws_heldIntS.f k (marks a n) a = some (a + n) := by
  unfold laws_heldIntS.f
  have := heldIntS_l0 n a ha hb n k 0 (by omega) hk
  simpa using this

end Go.Proofs.Ytligcknlmbgbiaa.Pure

namespace Go.Proofs.Ytligcknlmbgbiaa.Pure
open Go.RowKit Go.Proofs.Ytligcknlmbgbiaa.P Go.Proofs.YtligcknlmbgbiaaW.PrintWords Go.Proofs.YtligcknlmbgbiaaW.PrintLast Go.Proofs.Ytligcknlmbgbiaa.Opn
set_option linter.unusedVariables false
set_option linter.unusedSimpArgs false

theorem markSender (a : Int) (l1 : List Sp) (l2 : List Int) (h1 : l1.length ≤ 1048576) (h2 : l2.length ≤ 1048576) (k : Nat) (hk1 : l1.length < k) (hk2 : l2.length < k) : laws_markSender.f k a l1 l2 1 = some (1 + 2 * (l1.length : Int) + (l2.length : Int), mkSpan 1 l1.length, marks (1 + 2 * (l1.length : Int)) l2.length) := by
  unfold laws_markSender.f
  rw [markSpanS l1 1 (by omega) (by omega) k hk1, Option.bind_some]
  dsimp only
  rw [markIntS l2 _ (by omega) (by omega) k hk2, Option.bind_some]
theorem heldSender (a : Int) (n m : Nat) (h1 : n ≤ 1048576) (h2 : m ≤ 1048576) (k : Nat) (hk1 : n < k) (hk2 : m < k) : laws_heldSender.f k a (mkSpan 1 n) (marks (1 + 2 * (n : Int)) m) 1 = some (1 + 2 * (n : Int) + (m : Int)) := by
  unfold laws_heldSender.f
  rw [heldSpanS n 1 (by omega) (by omega) k hk1, Option.bind_some, if_neg (by omega), heldIntS m _ (by omega) (by omega) k hk2, Option.bind_some, if_neg (by omega)]
def sn (a : Int) (l1 : List Sp) (l2 : List Int) : Int × List Sp × List Int × Int × Bool := if goodSe a l1 l2 = true then (if a = 60 then (0, [], [], 0, false) else (wrap64 (a + 1), l1, l2, a, true)) else (0, [], [], 0, false)
theorem spec_sn (a : Int) (l1 : List Sp) (l2 : List Int) (h1 : l1.length ≤ 1048576) (h2 : l2.length ≤ 1048576) (k : Nat) (hk : l2.length + l1.length + 3 < k) : spec_SendNext.f k a l1 l2 = some (sn a l1 l2) := by
  unfold spec_SendNext.f sn
  rw [spec_goodSe a l1 l2 h1 h2 k (by omega), Option.bind_some]
  by_cases hg : goodSe a l1 l2 = true
  · rw [if_pos hg, if_pos hg]
    by_cases h6 : a = 60
    · rw [if_pos h6, if_pos h6]
    · rw [if_neg h6, if_neg h6]
      unfold spec_l11Own.f
      simp only [Option.bind_some, List.nil_append, List.length_nil, Nat.zero_add]
      rw [if_pos (by omega), if_pos (by omega), Option.bind_some]
  · rw [if_neg hg, if_neg hg]
theorem impl_sn (a : Int) (l1 : List Sp) (l2 : List Int) (h1 : l1.length ≤ 1048576) (h2 : l2.length ≤ 1048576) (k : Nat) (hk : l2.length + l1.length + 3 < k) : impl_SendNext.f k a l1 l2 = some (sn a l1 l2) := by
  obtain ⟨k, rfl⟩ := round hk
  unfold impl_SendNext.f sn
  rw [impl_goodSe a l1 l2 h1 h2 (k + 1) (by omega), Option.bind_some, impl_SendNext.j0, impl_SendNext.j0]
  unfold impl_Span_38.f slices_Clone_int_int.f
  simp only [Option.bind_some, List.nil_append, List.length_nil, Nat.zero_add]
  by_cases hg : goodSe a l1 l2 = true
  · rw [if_pos hg, if_pos hg]
    by_cases h6 : a = 60
    · rw [if_pos (by simpa using h6), if_pos h6]
    · rw [if_neg (by simpa using h6), if_neg h6, if_pos (by omega), Option.bind_some, if_pos (by omega), Option.bind_some]
  · rw [if_neg hg, if_neg hg]
    rfl
theorem sn_len (a : Int) (l1 : List Sp) (l2 : List Int) : (sn a l1 l2).2.1.length ≤ l1.length ∧ (sn a l1 l2).2.2.1.length ≤ l2.length := by
  unfold sn
  split
  · split
    · simp
    · simp
  · simp
theorem FnExactSendNext : laws_FnExactSendNext.Pure := by
  intro a l1 l2 _ h1 h2
  by_cases hs : (l1.length : Int) + l2.length ≤ 1048576
  · obtain ⟨k, hk⟩ : ∃ k : Nat, 2500000 < k := ⟨2500001, by omega⟩
    refine ⟨k + 1 + 1 + 1, ?_⟩
    have g1 : (l1.map cvSpan).length ≤ 1048576 := by simp only [List.length_map]; omega
    have g2 : l2.length ≤ 1048576 := by omega
    have g0 : l1.length ≤ 1048576 := by omega
    have hc := sn_len a (l1.map cvSpan) l2
    unfold laws_FnExactSendNext.f
    rw [szSender_ok a l1 l2 hs, Option.bind_some, if_neg (by omega)]
    simp only [toSender a l1 l2 g0 g2 (k + 1 + 1 + 1) (by omega) (by omega), Option.bind_some, spec_sn a (l1.map cvSpan) l2 g1 g2 (k + 1 + 1 + 1) (by omega), impl_sn a (l1.map cvSpan) l2 g1 g2 (k + 1 + 1 + 1) (by omega)]
    generalize hq : sn a (l1.map cvSpan) l2 = q at hc
    obtain ⟨b, c1, c2, n, f⟩ := q
    dsimp only at hc ⊢
    have d1 : c1.length ≤ 1048576 := by omega
    have d2 : c2.length ≤ 1048576 := by omega
    simp only [eqSender b c1 c2 d1 d2 (k + 1 + 1 + 1) (by omega) (by omega), Option.bind_some, if_true, bne_self_eq_false]
    rw [laws_FnExactSendNext.j0]
    simp only [Bool.false_eq_true, if_false, toSender a l1 l2 g0 g2 (k + 1 + 1) (by omega) (by omega), Option.bind_some, eqSender a (l1.map cvSpan) l2 g1 g2 (k + 1 + 1) (by omega) (by omega), if_true, markSender a (l1.map cvSpan) l2 g1 g2 (k + 1 + 1) (by omega) (by omega), eqSender b c1 c2 d1 d2 (k + 1 + 1) (by omega) (by omega), bne_self_eq_false]
    rw [if_neg (by omega), laws_FnExactSendNext.j1]
    simp only [Bool.false_eq_true, if_false, toSender a l1 l2 g0 g2 (k + 1) (by omega) (by omega), Option.bind_some, markSender b c1 c2 d1 d2 (k + 1) (by omega) (by omega), heldSender b c1.length c2.length d1 d2 (k + 1) (by omega) (by omega), if_true, impl_sn a (l1.map cvSpan) l2 g1 g2 (k + 1) (by omega), hq, eqSender b c1 c2 d1 d2 (k + 1) (by omega) (by omega), bne_self_eq_false]
    rw [if_neg (by omega), laws_FnExactSendNext.j2]
    simp only [Bool.false_eq_true, if_false, heldSender b c1.length c2.length d1 d2 k (by omega) (by omega), Option.bind_some, if_true]
    rw [if_neg (by omega)]
  · refine ⟨0, ?_⟩
    unfold laws_FnExactSendNext.f
    rw [szSender_big a l1 l2 h1.1 h2.1 hs, Option.bind_some, if_pos (by omega)]

end Go.Proofs.Ytligcknlmbgbiaa.Pure

namespace Go.Proofs.Ytligcknlmbgbiaa.fnExactSendNext
open Go.ChangeShapes Go.WideShapes Go.ChangeAt Go.RowKit Go.Proofs.Ytligcknlmbgbiaa.P Go.Proofs.Ytligcknlmbgbiaa.Opn Go.Proofs.YtligcknlmbgbiaaW.PrintWords
open Go.ChangeMaps (open_string shut_string)
set_option linter.unusedVariables false
theorem own : ownKnob Try.prog.godebug = none := by kernel_rfl
theorem laidOut : laidOutB Try.prog = true := by kernel_rfl
set_option maxRecDepth 100000 in
theorem lifted (os : Os) (started : os.Started) (H : Type) (enc : TypeId × Value → H) :
    ReturnsInHanded {} Try.checked os 4 .any (Rows.fnExactSendNextSpec.pre6 enc Try.prog Try.f4 Rows.fnExactSendNextRow.domain false) (Rows.fnExactSendNextSpec.post enc Try.prog Try.f4 false true false false) := by
  refine returnsInHanded_of_change_sized (C := Try.checked) own started (by kernel_rfl) Try.func4
    (ChangeSpec.witness6 (enc := enc) (C := Try.checked) false ⟨#[], #[.agg #[.int .i64 0, .slice none 0 0, .slice none 0 0]], []⟩ 8 (by kernel_rfl) (by kernel_rfl) (by kernel_rfl) (by kernel_rfl)) ?_
  intro W base args ds gs before hval0 hW hcnd hsz0 _
  have hval : ∀ (j : Nat) t v, Try.f4.params[j]? = some t → args[j]? = some v → Value.okWide Try.prog W .any base t v := hval0
  have hW' := hW
  obtain ⟨p, q, hA0, hV, rfl, hfz, hnd⟩ := hW
  have hA : DataW.TrodAll enc Try.prog W 0 (fun _ => true) true Try.f4.params.toList args.toList ds p := hA0
  rw [Try.params4] at hA hval
  obtain ⟨v0, vs0, d0, ds0, p0, q0, hargs, rfl, rfl, h0, r0⟩ := trodAll_cons hA
  obtain ⟨rfl, rfl, rfl⟩ := trodAll_nil r0
  obtain rfl : args = #[v0] := by cases args; simp_all
  obtain ⟨rfl, rfl⟩ := trodVars_none hV
  have k0 := h0
  have lt0 : ∀ x ∈ p0, x.block < W.heap.size := by obtain ⟨m, hm⟩ := k0; exact DataW.trod_lt m _ _ _ hm
  obtain ⟨fuel0, hf0⟩ := h0
  obtain ⟨y0, hK0, hw0⟩ := opens25.out enc W fuel0 _ _ hf0
  obtain ⟨cs0, rfl, _⟩ := okWide_struct Try.underlying25 (hval 0 25 v0 rfl rfl)
  obtain ⟨A0_1, c0_1, A0_2, c0_2, hcs0, hc0_1, hr0_1, hc0_2, hr0_2⟩ := k25_open hK0
  obtain rfl : cs0 = #[.int .i64 y0.f0, .slice A0_1 y0.f1.length c0_1, .slice A0_2 y0.f2.length c0_2] := by simpa [Value.cells, ← Array.toList_inj] using hcs0
  obtain ⟨k_, hP⟩ := Pure.FnExactSendNext y0.f0 y0.f1 y0.f2 hw0.1 hw0.2.1 hw0.2.2
  refine (laws_FnExactSendNext.calls k_ y0.f0 _ _ y0.f1 _ _ y0.f2 true W hr0_1 hc0_1 hr0_2 hc0_2 hP).mono fun e W' he => ?_
  obtain ⟨rfl, hd⟩ := he
  have bel : Below W.heap.size W W' := hd
  exact ⟨_, rfl, _, _, _, [], _, [], hW', trodAll_mk1 (shut_bool Try.underlying4 _), (trodAll_cons_mk (Below.trod laidOut (by kernel_rfl) (of_decide_eq_true (by kernel_rfl)) k0 bel lt0) trodAll_mk0), rfl, bel.frame _, fun h => by cases h⟩
theorem over : Rows.fnExactSendNextRow.holds Try.pinned (OpenSpec.ofChange Rows.fnExactSendNextSpec) :=
  OpenClaim.holds_of_wide 4 Try.f4 rfl rfl rfl rfl rfl rfl rfl ⟨rfl, rfl, rfl, rfl, rfl⟩ rfl rfl rfl rfl rfl (by kernel_rfl) Try.func4 (by kernel_rfl)
    (of_decide_eq_true (by kernel_rfl)) (by unfold Func.isWrapper; first | (rw [if_pos (by decide +kernel)]; kernel_rfl) | (rw [if_neg (by decide +kernel)]; exact ⟨rfl, rfl⟩))
    (fun os started H enc _ => lifted os started H enc)
end Go.Proofs.Ytligcknlmbgbiaa.fnExactSendNext
namespace Go.Proofs.Ytligcknlmbgbiaa
/-- The row. -/
theorem fnExactSendNext_holds : Rows.FnExactSendNextSaid := fnExactSendNext.over
#print axioms fnExactSendNext_holds
end Go.Proofs.Ytligcknlmbgbiaa
