/-
  No cell of these rows narrows 'for every input' (looked for: loops, veiled, ifaces, maps, wideKeys, modest, calm, conditions, laid).
  DERIVED. THE GIVEN ROWS OF THIS SEAT. 3 by the template 'for every input the law returns true; each argument reads behind the call as it read before'; 0 by the template 'total and deterministic' (their statements: YtpicfpdpcbncmaaTotals.lean).
  GIVEN WITH THE SEED: the statements are not yours to turn. If you find one false, say at which input.
  Laid BY PROGRAM, IN A SANDBOX (cutbox-rows.mjs): the forced cells as the released guide's own fill.sh prints them over the translation 6489bfcf2d0171a7… (all of the seat's roots in one cut). By AI agents, Wed Nov 11 2026. No macro, syntax, notation, axiom, sorry.
-/
import Derived.Test.YtpicfpdpcbncmaaChecked
import GoSem.Claim
import GoSem.ClaimJoined
import GoSem.ClaimMapViews
import Derived.JoinedTies
import Derived.KernelRfl
namespace Go.Proofs.Ytpicfpdpcbncmaa
/- THE CELL 'sum', in the pinned program and in every row, IS THE sha256 OF THE DUMP (.gsa) THAT YtpicfpdpcbncmaaProg.lean LOADS. Nothing in Lean hashes anything: it is a label: what it is worth is what the hold of that sum in a sandbox is worth. -/
noncomputable def Try.pinned : Pinned := { name := "ytpicfpdpcbncmaa", sum := "6489bfcf2d0171a7389c51858c345d0c8add1ead92bc13ba4f2a5112b65a656a", checked := Try.checked }
namespace Rows
def none {H : Type} : Left H := { results := [], args := [] }

/-- 'laws.FnExactBestSpan': WHATEVER THE INPUT: true; the input reads as it did. -/
def fnExactBestSpanSpec : ChangeSpec := { name := "fnExactBestSpan", fn := fun _ => fun
  | [d1, d2] => { results := [.lit (.bool true)], args := [d1, d2] }
  | _ => none }
def fnExactBestSpanRow : OpenClaim := { program := "ytpicfpdpcbncmaa", sum := "6489bfcf2d0171a7389c51858c345d0c8add1ead92bc13ba4f2a5112b65a656a", func := "loop.example/g00527/laws.FnExactBestSpan", spec := "fnExactBestSpan", unfollowed := true, recurses := true, apart := false }
def FnExactBestSpanSaid : Prop := fnExactBestSpanRow.holds Try.pinned (OpenSpec.ofChange fnExactBestSpanSpec)

/-- ITS FALSE NEIGHBOUR: 'it returns false'. Refute it at one input. -/
def fnExactBestSpanWrong : ChangeSpec := { name := "fnExactBestSpan", fn := fun _ => fun
  | [d1, d2] => { results := [.lit (.bool false)], args := [d1, d2] }
  | _ => none }
def FnExactBestSpanWrongFalsely : Prop := fnExactBestSpanRow.holds Try.pinned (OpenSpec.ofChange fnExactBestSpanWrong)

/-- 'laws.FnExactArriveAll': WHATEVER THE INPUT: true; the input reads as it did. -/
def fnExactArriveAllSpec : ChangeSpec := { name := "fnExactArriveAll", fn := fun _ => fun
  | [d1, d2] => { results := [.lit (.bool true)], args := [d1, d2] }
  | _ => none }
def fnExactArriveAllRow : OpenClaim := { program := "ytpicfpdpcbncmaa", sum := "6489bfcf2d0171a7389c51858c345d0c8add1ead92bc13ba4f2a5112b65a656a", func := "loop.example/g00527/laws.FnExactArriveAll", spec := "fnExactArriveAll", unfollowed := true, recurses := true, apart := false }
def FnExactArriveAllSaid : Prop := fnExactArriveAllRow.holds Try.pinned (OpenSpec.ofChange fnExactArriveAllSpec)

/-- ITS FALSE NEIGHBOUR: 'it returns false'. Refute it at one input. -/
def fnExactArriveAllWrong : ChangeSpec := { name := "fnExactArriveAll", fn := fun _ => fun
  | [d1, d2] => { results := [.lit (.bool false)], args := [d1, d2] }
  | _ => none }
def FnExactArriveAllWrongFalsely : Prop := fnExactArriveAllRow.holds Try.pinned (OpenSpec.ofChange fnExactArriveAllWrong)

/-- 'laws.FnExactGiveLongest': WHATEVER THE INPUT: true; the input reads as it did. -/
def fnExactGiveLongestSpec : ChangeSpec := { name := "fnExactGiveLongest", fn := fun _ => fun
  | [d1, d2] => { results := [.lit (.bool true)], args := [d1, d2] }
  | _ => none }
def fnExactGiveLongestRow : OpenClaim := { program := "ytpicfpdpcbncmaa", sum := "6489bfcf2d0171a7389c51858c345d0c8add1ead92bc13ba4f2a5112b65a656a", func := "loop.example/g00527/laws.FnExactGiveLongest", spec := "fnExactGiveLongest", unfollowed := true, recurses := true, apart := false }
def FnExactGiveLongestSaid : Prop := fnExactGiveLongestRow.holds Try.pinned (OpenSpec.ofChange fnExactGiveLongestSpec)

/-- ITS FALSE NEIGHBOUR: 'it returns false'. Refute it at one input. -/
def fnExactGiveLongestWrong : ChangeSpec := { name := "fnExactGiveLongest", fn := fun _ => fun
  | [d1, d2] => { results := [.lit (.bool false)], args := [d1, d2] }
  | _ => none }
def FnExactGiveLongestWrongFalsely : Prop := fnExactGiveLongestRow.holds Try.pinned (OpenSpec.ofChange fnExactGiveLongestWrong)

/- THE SECOND FORM. 'bulk': how many values and letters a reading holds, each counted each time it is reached (what is shared counts as often as it is met; a slice's spare places count too). A statement '..UptoSaid' is the law's where the arguments, and the package variables that the reading takes, are together of bulk at most 1048576: NARROWER than '..Said'. Prove '..Said' where nothing that the law and all that it calls make is longer than what came in: it says more and counts as full. Else prove '..UptoSaid'. A law counts once. -/
mutual
def uptoBulk {H : Type} : DataW H → Nat
  | .lit (.string bytes) => bytes.length + 1
  | .lit _ => 1
  | .nil => 1
  | .ptr d => uptoBulk d + 1
  | .slice elems spare => uptoBulkAll elems + uptoBulkAll spare + 1
  | .agg parts => uptoBulkAll parts + 1
  | .iface _ d => uptoBulk d + 1
  | .map entries => uptoBulkEntries entries + 1
  | .held _ => 1
def uptoBulkAll {H : Type} : List (DataW H) → Nat
  | [] => 0
  | d :: r => uptoBulk d + uptoBulkAll r
def uptoBulkEntries {H : Type} : List (Lit × DataW H) → Nat
  | [] => 0
  | x :: r => uptoBulkEntry x + uptoBulkEntries r
def uptoBulkEntry {H : Type} : Lit × DataW H → Nat
  | (.string bytes, d) => bytes.length + uptoBulk d + 1
  | (_, d) => uptoBulk d + 1
 end
def uptoSmall : (H : Type) → List (DataW H) → Bool := fun _ ds => decide (uptoBulkAll ds ≤ 1048576)
def OpenSpec.upto (s : _root_.Go.ChangeSpec) : _root_.Go.OpenSpec := { _root_.Go.OpenSpec.ofChange s with cond := some uptoSmall }

/-- 'laws.FnExactBestSpan', WHERE WHAT IT READS IS OF BULK AT MOST 1048576: true; the input reads as it did. -/
def fnExactBestSpanUptoRow : OpenClaim := { program := "ytpicfpdpcbncmaa", sum := "6489bfcf2d0171a7389c51858c345d0c8add1ead92bc13ba4f2a5112b65a656a", func := "loop.example/g00527/laws.FnExactBestSpan", spec := "fnExactBestSpan", unfollowed := true, recurses := true, apart := false, narrowed := true }
def FnExactBestSpanUptoSaid : Prop := fnExactBestSpanUptoRow.holds Try.pinned (OpenSpec.upto fnExactBestSpanSpec)

/-- 'laws.FnExactArriveAll', WHERE WHAT IT READS IS OF BULK AT MOST 1048576: true; the input reads as it did. -/
def fnExactArriveAllUptoRow : OpenClaim := { program := "ytpicfpdpcbncmaa", sum := "6489bfcf2d0171a7389c51858c345d0c8add1ead92bc13ba4f2a5112b65a656a", func := "loop.example/g00527/laws.FnExactArriveAll", spec := "fnExactArriveAll", unfollowed := true, recurses := true, apart := false, narrowed := true }
def FnExactArriveAllUptoSaid : Prop := fnExactArriveAllUptoRow.holds Try.pinned (OpenSpec.upto fnExactArriveAllSpec)

/-- 'laws.FnExactGiveLongest', WHERE WHAT IT READS IS OF BULK AT MOST 1048576: true; the input reads as it did. -/
def fnExactGiveLongestUptoRow : OpenClaim := { program := "ytpicfpdpcbncmaa", sum := "6489bfcf2d0171a7389c51858c345d0c8add1ead92bc13ba4f2a5112b65a656a", func := "loop.example/g00527/laws.FnExactGiveLongest", spec := "fnExactGiveLongest", unfollowed := true, recurses := true, apart := false, narrowed := true }
def FnExactGiveLongestUptoSaid : Prop := fnExactGiveLongestUptoRow.holds Try.pinned (OpenSpec.upto fnExactGiveLongestSpec)

end Rows
end Go.Proofs.Ytpicfpdpcbncmaa
