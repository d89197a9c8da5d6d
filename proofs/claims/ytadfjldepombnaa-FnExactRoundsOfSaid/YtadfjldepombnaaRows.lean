/-
  No cell of these rows narrows 'for every input' (looked for: loops, veiled, ifaces, maps, wideKeys, modest, calm, conditions, laid).
  DERIVED. THE GIVEN ROWS OF THIS SEAT. 8 by the template 'for every input the law returns true; each argument reads behind the call as it read before'; 0 by the template 'total and deterministic' (their statements: YtadfjldepombnaaTotals.lean).
  GIVEN WITH THE SEED: the statements are not yours to turn. If you find one false, say at which input.
  Laid BY PROGRAM, IN A SANDBOX (cutbox-rows.mjs): the forced cells as the released guide's own fill.sh prints them over the translation a7d71f8fde520298… (all of the seat's roots in one cut). By AI agents, Wed Nov 11 2026. No macro, syntax, notation, axiom, sorry.
-/
import Derived.Test.YtadfjldepombnaaChecked
import GoSem.Claim
import GoSem.ClaimJoined
import GoSem.ClaimMapViews
import Derived.JoinedTies
import Derived.KernelRfl
namespace Go.Proofs.Ytadfjldepombnaa
/- THE CELL 'sum', in the pinned program and in every row, IS THE sha256 OF THE DUMP (.gsa) THAT YtadfjldepombnaaProg.lean LOADS. Nothing in Lean hashes anything: it is a label: what it is worth is what the hold of that sum in a sandbox is worth. -/
noncomputable def Try.pinned : Pinned := { name := "ytadfjldepombnaa", sum := "a7d71f8fde5202982a18cccb75144a7964270a208e6ba09738e046c806244fe9", checked := Try.checked }
namespace Rows
def none {H : Type} : Left H := { results := [], args := [] }

/-- 'laws.FnExactGoodShares': WHATEVER THE INPUT: true; the input reads as it did. -/
def fnExactGoodSharesSpec : ChangeSpec := { name := "fnExactGoodShares", fn := fun _ => fun
  | [d] => { results := [.lit (.bool true)], args := [d] }
  | _ => none }
def fnExactGoodSharesRow : OpenClaim := { program := "ytadfjldepombnaa", sum := "a7d71f8fde5202982a18cccb75144a7964270a208e6ba09738e046c806244fe9", func := "loop.example/g00527/laws.FnExactGoodShares", spec := "fnExactGoodShares", unfollowed := true, recurses := true, apart := false }
def FnExactGoodSharesSaid : Prop := fnExactGoodSharesRow.holds Try.pinned (OpenSpec.ofChange fnExactGoodSharesSpec)

/-- ITS FALSE NEIGHBOUR: 'it returns false'. Refute it at one input. -/
def fnExactGoodSharesWrong : ChangeSpec := { name := "fnExactGoodShares", fn := fun _ => fun
  | [d] => { results := [.lit (.bool false)], args := [d] }
  | _ => none }
def FnExactGoodSharesWrongFalsely : Prop := fnExactGoodSharesRow.holds Try.pinned (OpenSpec.ofChange fnExactGoodSharesWrong)

/-- 'laws.FnExactFairnessOf': WHATEVER THE INPUT: true; the input reads as it did. -/
def fnExactFairnessOfSpec : ChangeSpec := { name := "fnExactFairnessOf", fn := fun _ => fun
  | [d] => { results := [.lit (.bool true)], args := [d] }
  | _ => none }
def fnExactFairnessOfRow : OpenClaim := { program := "ytadfjldepombnaa", sum := "a7d71f8fde5202982a18cccb75144a7964270a208e6ba09738e046c806244fe9", func := "loop.example/g00527/laws.FnExactFairnessOf", spec := "fnExactFairnessOf", unfollowed := true, recurses := true, apart := false }
def FnExactFairnessOfSaid : Prop := fnExactFairnessOfRow.holds Try.pinned (OpenSpec.ofChange fnExactFairnessOfSpec)

/-- ITS FALSE NEIGHBOUR: 'it returns false'. Refute it at one input. -/
def fnExactFairnessOfWrong : ChangeSpec := { name := "fnExactFairnessOf", fn := fun _ => fun
  | [d] => { results := [.lit (.bool false)], args := [d] }
  | _ => none }
def FnExactFairnessOfWrongFalsely : Prop := fnExactFairnessOfRow.holds Try.pinned (OpenSpec.ofChange fnExactFairnessOfWrong)

/-- 'laws.FnExactIsFairer': WHATEVER THE INPUT: true; the input reads as it did. -/
def fnExactIsFairerSpec : ChangeSpec := { name := "fnExactIsFairer", fn := fun _ => fun
  | [d1, d2] => { results := [.lit (.bool true)], args := [d1, d2] }
  | _ => none }
def fnExactIsFairerRow : OpenClaim := { program := "ytadfjldepombnaa", sum := "a7d71f8fde5202982a18cccb75144a7964270a208e6ba09738e046c806244fe9", func := "loop.example/g00527/laws.FnExactIsFairer", spec := "fnExactIsFairer", unfollowed := true, recurses := true, apart := false }
def FnExactIsFairerSaid : Prop := fnExactIsFairerRow.holds Try.pinned (OpenSpec.ofChange fnExactIsFairerSpec)

/-- ITS FALSE NEIGHBOUR: 'it returns false'. Refute it at one input. -/
def fnExactIsFairerWrong : ChangeSpec := { name := "fnExactIsFairer", fn := fun _ => fun
  | [d1, d2] => { results := [.lit (.bool false)], args := [d1, d2] }
  | _ => none }
def FnExactIsFairerWrongFalsely : Prop := fnExactIsFairerRow.holds Try.pinned (OpenSpec.ofChange fnExactIsFairerWrong)

/-- 'laws.FnExactSpreadOf': WHATEVER THE INPUT: true; the input reads as it did. -/
def fnExactSpreadOfSpec : ChangeSpec := { name := "fnExactSpreadOf", fn := fun _ => fun
  | [d] => { results := [.lit (.bool true)], args := [d] }
  | _ => none }
def fnExactSpreadOfRow : OpenClaim := { program := "ytadfjldepombnaa", sum := "a7d71f8fde5202982a18cccb75144a7964270a208e6ba09738e046c806244fe9", func := "loop.example/g00527/laws.FnExactSpreadOf", spec := "fnExactSpreadOf", unfollowed := true, recurses := true, apart := false }
def FnExactSpreadOfSaid : Prop := fnExactSpreadOfRow.holds Try.pinned (OpenSpec.ofChange fnExactSpreadOfSpec)

/-- ITS FALSE NEIGHBOUR: 'it returns false'. Refute it at one input. -/
def fnExactSpreadOfWrong : ChangeSpec := { name := "fnExactSpreadOf", fn := fun _ => fun
  | [d] => { results := [.lit (.bool false)], args := [d] }
  | _ => none }
def FnExactSpreadOfWrongFalsely : Prop := fnExactSpreadOfRow.holds Try.pinned (OpenSpec.ofChange fnExactSpreadOfWrong)

/-- 'laws.FnExactGrowAll': WHATEVER THE INPUT: true; the input reads as it did. -/
def fnExactGrowAllSpec : ChangeSpec := { name := "fnExactGrowAll", fn := fun _ => fun
  | [d] => { results := [.lit (.bool true)], args := [d] }
  | _ => none }
def fnExactGrowAllRow : OpenClaim := { program := "ytadfjldepombnaa", sum := "a7d71f8fde5202982a18cccb75144a7964270a208e6ba09738e046c806244fe9", func := "loop.example/g00527/laws.FnExactGrowAll", spec := "fnExactGrowAll", unfollowed := true, recurses := true, apart := false }
def FnExactGrowAllSaid : Prop := fnExactGrowAllRow.holds Try.pinned (OpenSpec.ofChange fnExactGrowAllSpec)

/-- ITS FALSE NEIGHBOUR: 'it returns false'. Refute it at one input. -/
def fnExactGrowAllWrong : ChangeSpec := { name := "fnExactGrowAll", fn := fun _ => fun
  | [d] => { results := [.lit (.bool false)], args := [d] }
  | _ => none }
def FnExactGrowAllWrongFalsely : Prop := fnExactGrowAllRow.holds Try.pinned (OpenSpec.ofChange fnExactGrowAllWrong)

/-- 'laws.FnExactHalveAll': WHATEVER THE INPUT: true; the input reads as it did. -/
def fnExactHalveAllSpec : ChangeSpec := { name := "fnExactHalveAll", fn := fun _ => fun
  | [d] => { results := [.lit (.bool true)], args := [d] }
  | _ => none }
def fnExactHalveAllRow : OpenClaim := { program := "ytadfjldepombnaa", sum := "a7d71f8fde5202982a18cccb75144a7964270a208e6ba09738e046c806244fe9", func := "loop.example/g00527/laws.FnExactHalveAll", spec := "fnExactHalveAll", unfollowed := true, recurses := true, apart := false }
def FnExactHalveAllSaid : Prop := fnExactHalveAllRow.holds Try.pinned (OpenSpec.ofChange fnExactHalveAllSpec)

/-- ITS FALSE NEIGHBOUR: 'it returns false'. Refute it at one input. -/
def fnExactHalveAllWrong : ChangeSpec := { name := "fnExactHalveAll", fn := fun _ => fun
  | [d] => { results := [.lit (.bool false)], args := [d] }
  | _ => none }
def FnExactHalveAllWrongFalsely : Prop := fnExactHalveAllRow.holds Try.pinned (OpenSpec.ofChange fnExactHalveAllWrong)

/-- 'laws.FnExactRoundOf': WHATEVER THE INPUT: true; the input reads as it did. -/
def fnExactRoundOfSpec : ChangeSpec := { name := "fnExactRoundOf", fn := fun _ => fun
  | [d] => { results := [.lit (.bool true)], args := [d] }
  | _ => none }
def fnExactRoundOfRow : OpenClaim := { program := "ytadfjldepombnaa", sum := "a7d71f8fde5202982a18cccb75144a7964270a208e6ba09738e046c806244fe9", func := "loop.example/g00527/laws.FnExactRoundOf", spec := "fnExactRoundOf", unfollowed := true, recurses := true, apart := false }
def FnExactRoundOfSaid : Prop := fnExactRoundOfRow.holds Try.pinned (OpenSpec.ofChange fnExactRoundOfSpec)

/-- ITS FALSE NEIGHBOUR: 'it returns false'. Refute it at one input. -/
def fnExactRoundOfWrong : ChangeSpec := { name := "fnExactRoundOf", fn := fun _ => fun
  | [d] => { results := [.lit (.bool false)], args := [d] }
  | _ => none }
def FnExactRoundOfWrongFalsely : Prop := fnExactRoundOfRow.holds Try.pinned (OpenSpec.ofChange fnExactRoundOfWrong)

/-- 'laws.FnExactRoundsOf': WHATEVER THE INPUT: true; the input reads as it did. -/
def fnExactRoundsOfSpec : ChangeSpec := { name := "fnExactRoundsOf", fn := fun _ => fun
  | [d1, d2] => { results := [.lit (.bool true)], args := [d1, d2] }
  | _ => none }
def fnExactRoundsOfRow : OpenClaim := { program := "ytadfjldepombnaa", sum := "a7d71f8fde5202982a18cccb75144a7964270a208e6ba09738e046c806244fe9", func := "loop.example/g00527/laws.FnExactRoundsOf", spec := "fnExactRoundsOf", unfollowed := true, recurses := true, apart := false }
def FnExactRoundsOfSaid : Prop := fnExactRoundsOfRow.holds Try.pinned (OpenSpec.ofChange fnExactRoundsOfSpec)

/-- ITS FALSE NEIGHBOUR: 'it returns false'. Refute it at one input. -/
def fnExactRoundsOfWrong : ChangeSpec := { name := "fnExactRoundsOf", fn := fun _ => fun
  | [d1, d2] => { results := [.lit (.bool false)], args := [d1, d2] }
  | _ => none }
def FnExactRoundsOfWrongFalsely : Prop := fnExactRoundsOfRow.holds Try.pinned (OpenSpec.ofChange fnExactRoundsOfWrong)

/- THE SECOND FORM. 'bulk': how many values and letters a reading holds, each counted each time it is reached (what is shared counts as often as it is met; a slice's spare places count too). A statement '..UptoSaid' is the law's where the arguments, and the package variables that the reading takes, are together of bulk at most 1048576: NARROWER than '..Said'. Prove '..Said' where nothing that the law and all that it calls make is longer than what came in: it says more and counts as full. Else prove '..UptoSaid'. A law counts once. -/
mutual
def uptoBulk {H : Type} : DataW H → Nat
  | .lit (.string bytes) => bytes.length + 1
  | .lit _ => 1
  | .nil => 1
  | .ptr d => uptoBulk d + 1
  | .slice elems spare => uptoBulkAll elems + uptoBulkAll spare + 1
  | .agg parts => uptoBulkAll parts + 1
  | .iface _ d => uptoBulk d + 1
  | .map entries => uptoBulkEntries entries + 1
  | .held _ => 1
def uptoBulkAll {H : Type} : List (DataW H) → Nat
  | [] => 0
  | d :: r => uptoBulk d + uptoBulkAll r
def uptoBulkEntries {H : Type} : List (Lit × DataW H) → Nat
  | [] => 0
  | x :: r => uptoBulkEntry x + uptoBulkEntries r
def uptoBulkEntry {H : Type} : Lit × DataW H → Nat
  | (.string bytes, d) => bytes.length + uptoBulk d + 1
  | (_, d) => uptoBulk d + 1
 end
def uptoSmall : (H : Type) → List (DataW H) → Bool := fun _ ds => decide (uptoBulkAll ds ≤ 1048576)
def OpenSpec.upto (s : _root_.Go.ChangeSpec) : _root_.Go.OpenSpec := { _root_.Go.OpenSpec.ofChange s with cond := some uptoSmall }

/-- 'laws.FnExactGoodShares', WHERE WHAT IT READS IS OF BULK AT MOST 1048576: true; the input reads as it did. -/
def fnExactGoodSharesUptoRow : OpenClaim := { program := "ytadfjldepombnaa", sum := "a7d71f8fde5202982a18cccb75144a7964270a208e6ba09738e046c806244fe9", func := "loop.example/g00527/laws.FnExactGoodShares", spec := "fnExactGoodShares", unfollowed := true, recurses := true, apart := false, narrowed := true }
def FnExactGoodSharesUptoSaid : Prop := fnExactGoodSharesUptoRow.holds Try.pinned (OpenSpec.upto fnExactGoodSharesSpec)

/-- 'laws.FnExactFairnessOf', WHERE WHAT IT READS IS OF BULK AT MOST 1048576: true; the input reads as it did. -/
def fnExactFairnessOfUptoRow : OpenClaim := { program := "ytadfjldepombnaa", sum := "a7d71f8fde5202982a18cccb75144a7964270a208e6ba09738e046c806244fe9", func := "loop.example/g00527/laws.FnExactFairnessOf", spec := "fnExactFairnessOf", unfollowed := true, recurses := true, apart := false, narrowed := true }
def FnExactFairnessOfUptoSaid : Prop := fnExactFairnessOfUptoRow.holds Try.pinned (OpenSpec.upto fnExactFairnessOfSpec)

/-- 'laws.FnExactIsFairer', WHERE WHAT IT READS IS OF BULK AT MOST 1048576: true; the input reads as it did. -/
def fnExactIsFairerUptoRow : OpenClaim := { program := "ytadfjldepombnaa", sum := "a7d71f8fde5202982a18cccb75144a7964270a208e6ba09738e046c806244fe9", func := "loop.example/g00527/laws.FnExactIsFairer", spec := "fnExactIsFairer", unfollowed := true, recurses := true, apart := false, narrowed := true }
def FnExactIsFairerUptoSaid : Prop := fnExactIsFairerUptoRow.holds Try.pinned (OpenSpec.upto fnExactIsFairerSpec)

/-- 'laws.FnExactSpreadOf', WHERE WHAT IT READS IS OF BULK AT MOST 1048576: true; the input reads as it did. -/
def fnExactSpreadOfUptoRow : OpenClaim := { program := "ytadfjldepombnaa", sum := "a7d71f8fde5202982a18cccb75144a7964270a208e6ba09738e046c806244fe9", func := "loop.example/g00527/laws.FnExactSpreadOf", spec := "fnExactSpreadOf", unfollowed := true, recurses := true, apart := false, narrowed := true }
def FnExactSpreadOfUptoSaid : Prop := fnExactSpreadOfUptoRow.holds Try.pinned (OpenSpec.upto fnExactSpreadOfSpec)

/-- 'laws.FnExactGrowAll', WHERE WHAT IT READS IS OF BULK AT MOST 1048576: true; the input reads as it did. -/
def fnExactGrowAllUptoRow : OpenClaim := { program := "ytadfjldepombnaa", sum := "a7d71f8fde5202982a18cccb75144a7964270a208e6ba09738e046c806244fe9", func := "loop.example/g00527/laws.FnExactGrowAll", spec := "fnExactGrowAll", unfollowed := true, recurses := true, apart := false, narrowed := true }
def FnExactGrowAllUptoSaid : Prop := fnExactGrowAllUptoRow.holds Try.pinned (OpenSpec.upto fnExactGrowAllSpec)

/-- 'laws.FnExactHalveAll', WHERE WHAT IT READS IS OF BULK AT MOST 1048576: true; the input reads as it did. -/
def fnExactHalveAllUptoRow : OpenClaim := { program := "ytadfjldepombnaa", sum := "a7d71f8fde5202982a18cccb75144a7964270a208e6ba09738e046c806244fe9", func := "loop.example/g00527/laws.FnExactHalveAll", spec := "fnExactHalveAll", unfollowed := true, recurses := true, apart := false, narrowed := true }
def FnExactHalveAllUptoSaid : Prop := fnExactHalveAllUptoRow.holds Try.pinned (OpenSpec.upto fnExactHalveAllSpec)

/-- 'laws.FnExactRoundOf', WHERE WHAT IT READS IS OF BULK AT MOST 1048576: true; the input reads as it did. -/
def fnExactRoundOfUptoRow : OpenClaim := { program := "ytadfjldepombnaa", sum := "a7d71f8fde5202982a18cccb75144a7964270a208e6ba09738e046c806244fe9", func := "loop.example/g00527/laws.FnExactRoundOf", spec := "fnExactRoundOf", unfollowed := true, recurses := true, apart := false, narrowed := true }
def FnExactRoundOfUptoSaid : Prop := fnExactRoundOfUptoRow.holds Try.pinned (OpenSpec.upto fnExactRoundOfSpec)

/-- 'laws.FnExactRoundsOf', WHERE WHAT IT READS IS OF BULK AT MOST 1048576: true; the input reads as it did. -/
def fnExactRoundsOfUptoRow : OpenClaim := { program := "ytadfjldepombnaa", sum := "a7d71f8fde5202982a18cccb75144a7964270a208e6ba09738e046c806244fe9", func := "loop.example/g00527/laws.FnExactRoundsOf", spec := "fnExactRoundsOf", unfollowed := true, recurses := true, apart := false, narrowed := true }
def FnExactRoundsOfUptoSaid : Prop := fnExactRoundsOfUptoRow.holds Try.pinned (OpenSpec.upto fnExactRoundsOfSpec)

end Rows
end Go.Proofs.Ytadfjldepombnaa
