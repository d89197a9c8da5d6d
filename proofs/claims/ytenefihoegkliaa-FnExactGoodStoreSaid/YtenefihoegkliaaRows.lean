/-
  No cell of these rows narrows 'for every input' (looked for: loops, veiled, ifaces, maps, wideKeys, modest, calm, conditions, laid).
  DERIVED. THE GIVEN ROWS OF THIS SEAT. 4 by the template 'for every input the law returns true; each argument reads behind the call as it read before'; 0 by the template 'total and deterministic' (their statements: YtenefihoegkliaaTotals.lean).
  GIVEN WITH THE SEED: the statements are not yours to turn. If you find one false, say at which input.
  Laid BY PROGRAM, IN A SANDBOX (cutbox-rows.mjs): the forced cells as the released guide's own fill.sh prints them over the translation c9588b30a2dac0bf… (all of the seat's roots in one cut). By AI agents, Wed Nov 11 2026. No macro, syntax, notation, axiom, sorry.
-/
import Derived.Test.YtenefihoegkliaaChecked
import GoSem.Claim
import GoSem.ClaimJoined
import GoSem.ClaimMapViews
import Derived.JoinedTies
import Derived.KernelRfl
namespace Go.Proofs.Ytenefihoegkliaa
/- THE CELL 'sum', in the pinned program and in every row, IS THE sha256 OF THE DUMP (.gsa) THAT YtenefihoegkliaaProg.lean LOADS. Nothing in Lean hashes anything: it is a label: what it is worth is what the hold of that sum in a sandbox is worth. -/
noncomputable def Try.pinned : Pinned := { name := "ytenefihoegkliaa", sum := "c9588b30a2dac0bf69fc05459adb24608a0e21894296a5478347167974bbb23b", checked := Try.checked }
namespace Rows
def none {H : Type} : Left H := { results := [], args := [] }

/-- 'laws.FnExactIsDone': WHATEVER THE INPUT: true; the input reads as it did. -/
def fnExactIsDoneSpec : ChangeSpec := { name := "fnExactIsDone", fn := fun _ => fun
  | [d] => { results := [.lit (.bool true)], args := [d] }
  | _ => none }
def fnExactIsDoneRow : OpenClaim := { program := "ytenefihoegkliaa", sum := "c9588b30a2dac0bf69fc05459adb24608a0e21894296a5478347167974bbb23b", func := "loop.example/g00527/laws.FnExactIsDone", spec := "fnExactIsDone", unfollowed := true, recurses := true, apart := false }
def FnExactIsDoneSaid : Prop := fnExactIsDoneRow.holds Try.pinned (OpenSpec.ofChange fnExactIsDoneSpec)

/-- ITS FALSE NEIGHBOUR: 'it returns false'. Refute it at one input. -/
def fnExactIsDoneWrong : ChangeSpec := { name := "fnExactIsDone", fn := fun _ => fun
  | [d] => { results := [.lit (.bool false)], args := [d] }
  | _ => none }
def FnExactIsDoneWrongFalsely : Prop := fnExactIsDoneRow.holds Try.pinned (OpenSpec.ofChange fnExactIsDoneWrong)

/-- 'laws.FnExactNewBlock': WHATEVER THE INPUT: true; the input reads as it did. -/
def fnExactNewBlockSpec : ChangeSpec := { name := "fnExactNewBlock", fn := fun _ => fun
  | [d1, d2] => { results := [.lit (.bool true)], args := [d1, d2] }
  | _ => none }
def fnExactNewBlockRow : OpenClaim := { program := "ytenefihoegkliaa", sum := "c9588b30a2dac0bf69fc05459adb24608a0e21894296a5478347167974bbb23b", func := "loop.example/g00527/laws.FnExactNewBlock", spec := "fnExactNewBlock", inPlace := ["internal/abi.NoEscape", "internal/bytealg.MakeNoZero"], apart := false }
def FnExactNewBlockSaid : Prop := fnExactNewBlockRow.holds Try.pinned (OpenSpec.ofChange fnExactNewBlockSpec)

/-- ITS FALSE NEIGHBOUR: 'it returns false'. Refute it at one input. -/
def fnExactNewBlockWrong : ChangeSpec := { name := "fnExactNewBlock", fn := fun _ => fun
  | [d1, d2] => { results := [.lit (.bool false)], args := [d1, d2] }
  | _ => none }
def FnExactNewBlockWrongFalsely : Prop := fnExactNewBlockRow.holds Try.pinned (OpenSpec.ofChange fnExactNewBlockWrong)

/-- 'laws.FnExactTakePart': WHATEVER THE INPUT: true; the input reads as it did. -/
def fnExactTakePartSpec : ChangeSpec := { name := "fnExactTakePart", fn := fun _ => fun
  | [d1, d2] => { results := [.lit (.bool true)], args := [d1, d2] }
  | _ => none }
def fnExactTakePartRow : OpenClaim := { program := "ytenefihoegkliaa", sum := "c9588b30a2dac0bf69fc05459adb24608a0e21894296a5478347167974bbb23b", func := "loop.example/g00527/laws.FnExactTakePart", spec := "fnExactTakePart", unfollowed := true, recurses := true, apart := false }
def FnExactTakePartSaid : Prop := fnExactTakePartRow.holds Try.pinned (OpenSpec.ofChange fnExactTakePartSpec)

/-- ITS FALSE NEIGHBOUR: 'it returns false'. Refute it at one input. -/
def fnExactTakePartWrong : ChangeSpec := { name := "fnExactTakePart", fn := fun _ => fun
  | [d1, d2] => { results := [.lit (.bool false)], args := [d1, d2] }
  | _ => none }
def FnExactTakePartWrongFalsely : Prop := fnExactTakePartRow.holds Try.pinned (OpenSpec.ofChange fnExactTakePartWrong)

/-- 'laws.FnExactGoodStore': WHATEVER THE INPUT: true; the input reads as it did. -/
def fnExactGoodStoreSpec : ChangeSpec := { name := "fnExactGoodStore", fn := fun _ => fun
  | [d] => { results := [.lit (.bool true)], args := [d] }
  | _ => none }
def fnExactGoodStoreRow : OpenClaim := { program := "ytenefihoegkliaa", sum := "c9588b30a2dac0bf69fc05459adb24608a0e21894296a5478347167974bbb23b", func := "loop.example/g00527/laws.FnExactGoodStore", spec := "fnExactGoodStore", unfollowed := true, recurses := true, apart := false }
def FnExactGoodStoreSaid : Prop := fnExactGoodStoreRow.holds Try.pinned (OpenSpec.ofChange fnExactGoodStoreSpec)

/-- ITS FALSE NEIGHBOUR: 'it returns false'. Refute it at one input. -/
def fnExactGoodStoreWrong : ChangeSpec := { name := "fnExactGoodStore", fn := fun _ => fun
  | [d] => { results := [.lit (.bool false)], args := [d] }
  | _ => none }
def FnExactGoodStoreWrongFalsely : Prop := fnExactGoodStoreRow.holds Try.pinned (OpenSpec.ofChange fnExactGoodStoreWrong)

/- THE SECOND FORM. 'bulk': how many values and letters a reading holds, each counted each time it is reached (what is shared counts as often as it is met; a slice's spare places count too). A statement '..UptoSaid' is the law's where the arguments, and the package variables that the reading takes, are together of bulk at most 1048576: NARROWER than '..Said'. Prove '..Said' where nothing that the law and all that it calls make is longer than what came in: it says more and counts as full. Else prove '..UptoSaid'. A law counts once. -/
mutual
def uptoBulk {H : Type} : DataW H → Nat
  | .lit (.string bytes) => bytes.length + 1
  | .lit _ => 1
  | .nil => 1
  | .ptr d => uptoBulk d + 1
  | .slice elems spare => uptoBulkAll elems + uptoBulkAll spare + 1
  | .agg parts => uptoBulkAll parts + 1
  | .iface _ d => uptoBulk d + 1
  | .map entries => uptoBulkEntries entries + 1
  | .held _ => 1
def uptoBulkAll {H : Type} : List (DataW H) → Nat
  | [] => 0
  | d :: r => uptoBulk d + uptoBulkAll r
def uptoBulkEntries {H : Type} : List (Lit × DataW H) → Nat
  | [] => 0
  | x :: r => uptoBulkEntry x + uptoBulkEntries r
def uptoBulkEntry {H : Type} : Lit × DataW H → Nat
  | (.string bytes, d) => bytes.length + uptoBulk d + 1
  | (_, d) => uptoBulk d + 1
 end
def uptoSmall : (H : Type) → List (DataW H) → Bool := fun _ ds => decide (uptoBulkAll ds ≤ 1048576)
def OpenSpec.upto (s : _root_.Go.ChangeSpec) : _root_.Go.OpenSpec := { _root_.Go.OpenSpec.ofChange s with cond := some uptoSmall }

/-- 'laws.FnExactIsDone', WHERE WHAT IT READS IS OF BULK AT MOST 1048576: true; the input reads as it did. -/
def fnExactIsDoneUptoRow : OpenClaim := { program := "ytenefihoegkliaa", sum := "c9588b30a2dac0bf69fc05459adb24608a0e21894296a5478347167974bbb23b", func := "loop.example/g00527/laws.FnExactIsDone", spec := "fnExactIsDone", unfollowed := true, recurses := true, apart := false, narrowed := true }
def FnExactIsDoneUptoSaid : Prop := fnExactIsDoneUptoRow.holds Try.pinned (OpenSpec.upto fnExactIsDoneSpec)

/-- 'laws.FnExactNewBlock', WHERE WHAT IT READS IS OF BULK AT MOST 1048576: true; the input reads as it did. -/
def fnExactNewBlockUptoRow : OpenClaim := { program := "ytenefihoegkliaa", sum := "c9588b30a2dac0bf69fc05459adb24608a0e21894296a5478347167974bbb23b", func := "loop.example/g00527/laws.FnExactNewBlock", spec := "fnExactNewBlock", inPlace := ["internal/abi.NoEscape", "internal/bytealg.MakeNoZero"], apart := false, narrowed := true }
def FnExactNewBlockUptoSaid : Prop := fnExactNewBlockUptoRow.holds Try.pinned (OpenSpec.upto fnExactNewBlockSpec)

/-- 'laws.FnExactTakePart', WHERE WHAT IT READS IS OF BULK AT MOST 1048576: true; the input reads as it did. -/
def fnExactTakePartUptoRow : OpenClaim := { program := "ytenefihoegkliaa", sum := "c9588b30a2dac0bf69fc05459adb24608a0e21894296a5478347167974bbb23b", func := "loop.example/g00527/laws.FnExactTakePart", spec := "fnExactTakePart", unfollowed := true, recurses := true, apart := false, narrowed := true }
def FnExactTakePartUptoSaid : Prop := fnExactTakePartUptoRow.holds Try.pinned (OpenSpec.upto fnExactTakePartSpec)

/-- 'laws.FnExactGoodStore', WHERE WHAT IT READS IS OF BULK AT MOST 1048576: true; the input reads as it did. -/
def fnExactGoodStoreUptoRow : OpenClaim := { program := "ytenefihoegkliaa", sum := "c9588b30a2dac0bf69fc05459adb24608a0e21894296a5478347167974bbb23b", func := "loop.example/g00527/laws.FnExactGoodStore", spec := "fnExactGoodStore", unfollowed := true, recurses := true, apart := false, narrowed := true }
def FnExactGoodStoreUptoSaid : Prop := fnExactGoodStoreUptoRow.holds Try.pinned (OpenSpec.upto fnExactGoodStoreSpec)

end Rows
end Go.Proofs.Ytenefihoegkliaa
