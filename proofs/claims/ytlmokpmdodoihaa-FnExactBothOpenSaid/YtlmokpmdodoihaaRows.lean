/-
  No cell of these rows narrows 'for every input' (looked for: loops, veiled, ifaces, maps, wideKeys, modest, calm, conditions, laid).
  DERIVED. THE GIVEN ROWS OF THIS SEAT. 3 by the template 'for every input the law returns true; each argument reads behind the call as it read before'; 0 by the template 'total and deterministic' (their statements: YtlmokpmdodoihaaTotals.lean).
  GIVEN WITH THE SEED: the statements are not yours to turn. If you find one false, say at which input.
  Laid BY PROGRAM, IN A SANDBOX (cutbox-rows.mjs): the forced cells as the released guide's own fill.sh prints them over the translation 0e59bb339a827ba3… (all of the seat's roots in one cut). By AI agents, Wed Nov 11 2026. No macro, syntax, notation, axiom, sorry.
-/
import Derived.Test.YtlmokpmdodoihaaChecked
import GoSem.Claim
import GoSem.ClaimJoined
import GoSem.ClaimMapViews
import Derived.JoinedTies
import Derived.KernelRfl
namespace Go.Proofs.Ytlmokpmdodoihaa
/- THE CELL 'sum', in the pinned program and in every row, IS THE sha256 OF THE DUMP (.gsa) THAT YtlmokpmdodoihaaProg.lean LOADS. Nothing in Lean hashes anything: it is a label: what it is worth is what the hold of that sum in a sandbox is worth. -/
noncomputable def Try.pinned : Pinned := { name := "ytlmokpmdodoihaa", sum := "0e59bb339a827ba38c4f6bb7545fbd6d64b155fed0e9258f62a4c36b95876ff9", checked := Try.checked }
namespace Rows
def none {H : Type} : Left H := { results := [], args := [] }

/-- 'laws.FnExactNewGreet': WHATEVER THE INPUT: true; the input reads as it did. -/
def fnExactNewGreetSpec : ChangeSpec := { name := "fnExactNewGreet", fn := fun _ => fun
  | [] => { results := [.lit (.bool true)], args := [] }
  | _ => none }
def fnExactNewGreetRow : OpenClaim := { program := "ytlmokpmdodoihaa", sum := "0e59bb339a827ba38c4f6bb7545fbd6d64b155fed0e9258f62a4c36b95876ff9", func := "loop.example/g00527/laws.FnExactNewGreet", spec := "fnExactNewGreet", apart := false }
def FnExactNewGreetSaid : Prop := fnExactNewGreetRow.holds Try.pinned (OpenSpec.ofChange fnExactNewGreetSpec)

/-- ITS FALSE NEIGHBOUR: 'it returns false'. Refute it at one input. -/
def fnExactNewGreetWrong : ChangeSpec := { name := "fnExactNewGreet", fn := fun _ => fun
  | [] => { results := [.lit (.bool false)], args := [] }
  | _ => none }
def FnExactNewGreetWrongFalsely : Prop := fnExactNewGreetRow.holds Try.pinned (OpenSpec.ofChange fnExactNewGreetWrong)

/-- 'laws.FnExactGoodGreet': WHATEVER THE INPUT: true; the input reads as it did. -/
def fnExactGoodGreetSpec : ChangeSpec := { name := "fnExactGoodGreet", fn := fun _ => fun
  | [d] => { results := [.lit (.bool true)], args := [d] }
  | _ => none }
def fnExactGoodGreetRow : OpenClaim := { program := "ytlmokpmdodoihaa", sum := "0e59bb339a827ba38c4f6bb7545fbd6d64b155fed0e9258f62a4c36b95876ff9", func := "loop.example/g00527/laws.FnExactGoodGreet", spec := "fnExactGoodGreet", unfollowed := true, recurses := true, apart := false }
def FnExactGoodGreetSaid : Prop := fnExactGoodGreetRow.holds Try.pinned (OpenSpec.ofChange fnExactGoodGreetSpec)

/-- ITS FALSE NEIGHBOUR: 'it returns false'. Refute it at one input. -/
def fnExactGoodGreetWrong : ChangeSpec := { name := "fnExactGoodGreet", fn := fun _ => fun
  | [d] => { results := [.lit (.bool false)], args := [d] }
  | _ => none }
def FnExactGoodGreetWrongFalsely : Prop := fnExactGoodGreetRow.holds Try.pinned (OpenSpec.ofChange fnExactGoodGreetWrong)

/-- 'laws.FnExactBothOpen': WHATEVER THE INPUT: true; the input reads as it did. -/
def fnExactBothOpenSpec : ChangeSpec := { name := "fnExactBothOpen", fn := fun _ => fun
  | [d] => { results := [.lit (.bool true)], args := [d] }
  | _ => none }
def fnExactBothOpenRow : OpenClaim := { program := "ytlmokpmdodoihaa", sum := "0e59bb339a827ba38c4f6bb7545fbd6d64b155fed0e9258f62a4c36b95876ff9", func := "loop.example/g00527/laws.FnExactBothOpen", spec := "fnExactBothOpen", unfollowed := true, recurses := true, apart := false }
def FnExactBothOpenSaid : Prop := fnExactBothOpenRow.holds Try.pinned (OpenSpec.ofChange fnExactBothOpenSpec)

/-- ITS FALSE NEIGHBOUR: 'it returns false'. Refute it at one input. -/
def fnExactBothOpenWrong : ChangeSpec := { name := "fnExactBothOpen", fn := fun _ => fun
  | [d] => { results := [.lit (.bool false)], args := [d] }
  | _ => none }
def FnExactBothOpenWrongFalsely : Prop := fnExactBothOpenRow.holds Try.pinned (OpenSpec.ofChange fnExactBothOpenWrong)

/- THE SECOND FORM. 'bulk': how many values and letters a reading holds, each counted each time it is reached (what is shared counts as often as it is met; a slice's spare places count too). A statement '..UptoSaid' is the law's where the arguments, and the package variables that the reading takes, are together of bulk at most 1048576: NARROWER than '..Said'. Prove '..Said' where nothing that the law and all that it calls make is longer than what came in: it says more and counts as full. Else prove '..UptoSaid'. A law counts once. -/
mutual
def uptoBulk {H : Type} : DataW H → Nat
  | .lit (.string bytes) => bytes.length + 1
  | .lit _ => 1
  | .nil => 1
  | .ptr d => uptoBulk d + 1
  | .slice elems spare => uptoBulkAll elems + uptoBulkAll spare + 1
  | .agg parts => uptoBulkAll parts + 1
  | .iface _ d => uptoBulk d + 1
  | .map entries => uptoBulkEntries entries + 1
  | .held _ => 1
def uptoBulkAll {H : Type} : List (DataW H) → Nat
  | [] => 0
  | d :: r => uptoBulk d + uptoBulkAll r
def uptoBulkEntries {H : Type} : List (Lit × DataW H) → Nat
  | [] => 0
  | x :: r => uptoBulkEntry x + uptoBulkEntries r
def uptoBulkEntry {H : Type} : Lit × DataW H → Nat
  | (.string bytes, d) => bytes.length + uptoBulk d + 1
  | (_, d) => uptoBulk d + 1
 end
def uptoSmall : (H : Type) → List (DataW H) → Bool := fun _ ds => decide (uptoBulkAll ds ≤ 1048576)
def OpenSpec.upto (s : _root_.Go.ChangeSpec) : _root_.Go.OpenSpec := { _root_.Go.OpenSpec.ofChange s with cond := some uptoSmall }

/-- 'laws.FnExactNewGreet', WHERE WHAT IT READS IS OF BULK AT MOST 1048576: true; the input reads as it did. -/
def fnExactNewGreetUptoRow : OpenClaim := { program := "ytlmokpmdodoihaa", sum := "0e59bb339a827ba38c4f6bb7545fbd6d64b155fed0e9258f62a4c36b95876ff9", func := "loop.example/g00527/laws.FnExactNewGreet", spec := "fnExactNewGreet", apart := false, narrowed := true }
def FnExactNewGreetUptoSaid : Prop := fnExactNewGreetUptoRow.holds Try.pinned (OpenSpec.upto fnExactNewGreetSpec)

/-- 'laws.FnExactGoodGreet', WHERE WHAT IT READS IS OF BULK AT MOST 1048576: true; the input reads as it did. -/
def fnExactGoodGreetUptoRow : OpenClaim := { program := "ytlmokpmdodoihaa", sum := "0e59bb339a827ba38c4f6bb7545fbd6d64b155fed0e9258f62a4c36b95876ff9", func := "loop.example/g00527/laws.FnExactGoodGreet", spec := "fnExactGoodGreet", unfollowed := true, recurses := true, apart := false, narrowed := true }
def FnExactGoodGreetUptoSaid : Prop := fnExactGoodGreetUptoRow.holds Try.pinned (OpenSpec.upto fnExactGoodGreetSpec)

/-- 'laws.FnExactBothOpen', WHERE WHAT IT READS IS OF BULK AT MOST 1048576: true; the input reads as it did. -/
def fnExactBothOpenUptoRow : OpenClaim := { program := "ytlmokpmdodoihaa", sum := "0e59bb339a827ba38c4f6bb7545fbd6d64b155fed0e9258f62a4c36b95876ff9", func := "loop.example/g00527/laws.FnExactBothOpen", spec := "fnExactBothOpen", unfollowed := true, recurses := true, apart := false, narrowed := true }
def FnExactBothOpenUptoSaid : Prop := fnExactBothOpenUptoRow.holds Try.pinned (OpenSpec.upto fnExactBothOpenSpec)

end Rows
end Go.Proofs.Ytlmokpmdodoihaa
