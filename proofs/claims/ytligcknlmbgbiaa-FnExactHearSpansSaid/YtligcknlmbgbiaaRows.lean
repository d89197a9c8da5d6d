/-
  No cell of these rows narrows 'for every input' (looked for: loops, veiled, ifaces, maps, wideKeys, modest, calm, conditions, laid).
  DERIVED. THE GIVEN ROWS OF THIS SEAT. 5 by the template 'for every input the law returns true; each argument reads behind the call as it read before'; 0 by the template 'total and deterministic' (their statements: YtligcknlmbgbiaaTotals.lean).
  GIVEN WITH THE SEED: the statements are not yours to turn. If you find one false, say at which input.
  Laid BY PROGRAM, IN A SANDBOX (cutbox-rows.mjs): the forced cells as the released guide's own fill.sh prints them over the translation 602b41b45e635c7f… (all of the seat's roots in one cut). By AI agents, Wed Nov 11 2026. No macro, syntax, notation, axiom, sorry.
-/
import Derived.Test.YtligcknlmbgbiaaChecked
import GoSem.Claim
import GoSem.ClaimJoined
import GoSem.ClaimMapViews
import Derived.JoinedTies
import Derived.KernelRfl
namespace Go.Proofs.Ytligcknlmbgbiaa
/- THE CELL 'sum', in the pinned program and in every row, IS THE sha256 OF THE DUMP (.gsa) THAT YtligcknlmbgbiaaProg.lean LOADS. Nothing in Lean hashes anything: it is a label: what it is worth is what the hold of that sum in a sandbox is worth. -/
noncomputable def Try.pinned : Pinned := { name := "ytligcknlmbgbiaa", sum := "602b41b45e635c7f29e278c2f0eaf7481fe112d15a57b7336215e264f0fae1a4", checked := Try.checked }
namespace Rows
def none {H : Type} : Left H := { results := [], args := [] }

/-- 'laws.FnExactOpenIn': WHATEVER THE INPUT: true; the input reads as it did. -/
def fnExactOpenInSpec : ChangeSpec := { name := "fnExactOpenIn", fn := fun _ => fun
  | [d] => { results := [.lit (.bool true)], args := [d] }
  | _ => none }
def fnExactOpenInRow : OpenClaim := { program := "ytligcknlmbgbiaa", sum := "602b41b45e635c7f29e278c2f0eaf7481fe112d15a57b7336215e264f0fae1a4", func := "loop.example/g00527/laws.FnExactOpenIn", spec := "fnExactOpenIn", unfollowed := true, recurses := true, apart := false }
def FnExactOpenInSaid : Prop := fnExactOpenInRow.holds Try.pinned (OpenSpec.ofChange fnExactOpenInSpec)

/-- ITS FALSE NEIGHBOUR: 'it returns false'. Refute it at one input. -/
def fnExactOpenInWrong : ChangeSpec := { name := "fnExactOpenIn", fn := fun _ => fun
  | [d] => { results := [.lit (.bool false)], args := [d] }
  | _ => none }
def FnExactOpenInWrongFalsely : Prop := fnExactOpenInRow.holds Try.pinned (OpenSpec.ofChange fnExactOpenInWrong)

/-- 'laws.FnExactSendNext': WHATEVER THE INPUT: true; the input reads as it did. -/
def fnExactSendNextSpec : ChangeSpec := { name := "fnExactSendNext", fn := fun _ => fun
  | [d] => { results := [.lit (.bool true)], args := [d] }
  | _ => none }
def fnExactSendNextRow : OpenClaim := { program := "ytligcknlmbgbiaa", sum := "602b41b45e635c7f29e278c2f0eaf7481fe112d15a57b7336215e264f0fae1a4", func := "loop.example/g00527/laws.FnExactSendNext", spec := "fnExactSendNext", unfollowed := true, recurses := true, apart := false }
def FnExactSendNextSaid : Prop := fnExactSendNextRow.holds Try.pinned (OpenSpec.ofChange fnExactSendNextSpec)

/-- ITS FALSE NEIGHBOUR: 'it returns false'. Refute it at one input. -/
def fnExactSendNextWrong : ChangeSpec := { name := "fnExactSendNext", fn := fun _ => fun
  | [d] => { results := [.lit (.bool false)], args := [d] }
  | _ => none }
def FnExactSendNextWrongFalsely : Prop := fnExactSendNextRow.holds Try.pinned (OpenSpec.ofChange fnExactSendNextWrong)

/-- 'laws.FnExactHearSpans': WHATEVER THE INPUT: true; the input reads as it did. -/
def fnExactHearSpansSpec : ChangeSpec := { name := "fnExactHearSpans", fn := fun _ => fun
  | [d1, d2] => { results := [.lit (.bool true)], args := [d1, d2] }
  | _ => none }
def fnExactHearSpansRow : OpenClaim := { program := "ytligcknlmbgbiaa", sum := "602b41b45e635c7f29e278c2f0eaf7481fe112d15a57b7336215e264f0fae1a4", func := "loop.example/g00527/laws.FnExactHearSpans", spec := "fnExactHearSpans", unfollowed := true, recurses := true, apart := false }
def FnExactHearSpansSaid : Prop := fnExactHearSpansRow.holds Try.pinned (OpenSpec.ofChange fnExactHearSpansSpec)

/-- ITS FALSE NEIGHBOUR: 'it returns false'. Refute it at one input. -/
def fnExactHearSpansWrong : ChangeSpec := { name := "fnExactHearSpans", fn := fun _ => fun
  | [d1, d2] => { results := [.lit (.bool false)], args := [d1, d2] }
  | _ => none }
def FnExactHearSpansWrongFalsely : Prop := fnExactHearSpansRow.holds Try.pinned (OpenSpec.ofChange fnExactHearSpansWrong)

/-- 'laws.FnExactPlayHeard': WHATEVER THE INPUT: true; the input reads as it did. -/
def fnExactPlayHeardSpec : ChangeSpec := { name := "fnExactPlayHeard", fn := fun _ => fun
  | [d1, d2] => { results := [.lit (.bool true)], args := [d1, d2] }
  | _ => none }
def fnExactPlayHeardRow : OpenClaim := { program := "ytligcknlmbgbiaa", sum := "602b41b45e635c7f29e278c2f0eaf7481fe112d15a57b7336215e264f0fae1a4", func := "loop.example/g00527/laws.FnExactPlayHeard", spec := "fnExactPlayHeard", unfollowed := true, recurses := true, apart := false }
def FnExactPlayHeardSaid : Prop := fnExactPlayHeardRow.holds Try.pinned (OpenSpec.ofChange fnExactPlayHeardSpec)

/-- ITS FALSE NEIGHBOUR: 'it returns false'. Refute it at one input. -/
def fnExactPlayHeardWrong : ChangeSpec := { name := "fnExactPlayHeard", fn := fun _ => fun
  | [d1, d2] => { results := [.lit (.bool false)], args := [d1, d2] }
  | _ => none }
def FnExactPlayHeardWrongFalsely : Prop := fnExactPlayHeardRow.holds Try.pinned (OpenSpec.ofChange fnExactPlayHeardWrong)

/-- 'laws.FnExactAcksOf': WHATEVER THE INPUT: true; the input reads as it did. -/
def fnExactAcksOfSpec : ChangeSpec := { name := "fnExactAcksOf", fn := fun _ => fun
  | [d] => { results := [.lit (.bool true)], args := [d] }
  | _ => none }
def fnExactAcksOfRow : OpenClaim := { program := "ytligcknlmbgbiaa", sum := "602b41b45e635c7f29e278c2f0eaf7481fe112d15a57b7336215e264f0fae1a4", func := "loop.example/g00527/laws.FnExactAcksOf", spec := "fnExactAcksOf", unfollowed := true, recurses := true, apart := false }
def FnExactAcksOfSaid : Prop := fnExactAcksOfRow.holds Try.pinned (OpenSpec.ofChange fnExactAcksOfSpec)

/-- ITS FALSE NEIGHBOUR: 'it returns false'. Refute it at one input. -/
def fnExactAcksOfWrong : ChangeSpec := { name := "fnExactAcksOf", fn := fun _ => fun
  | [d] => { results := [.lit (.bool false)], args := [d] }
  | _ => none }
def FnExactAcksOfWrongFalsely : Prop := fnExactAcksOfRow.holds Try.pinned (OpenSpec.ofChange fnExactAcksOfWrong)

/- THE SECOND FORM. 'bulk': how many values and letters a reading holds, each counted each time it is reached (what is shared counts as often as it is met; a slice's spare places count too). A statement '..UptoSaid' is the law's where the arguments, and the package variables that the reading takes, are together of bulk at most 1048576: NARROWER than '..Said'. Prove '..Said' where nothing that the law and all that it calls make is longer than what came in: it says more and counts as full. Else prove '..UptoSaid'. A law counts once. -/
mutual
def uptoBulk {H : Type} : DataW H → Nat
  | .lit (.string bytes) => bytes.length + 1
  | .lit _ => 1
  | .nil => 1
  | .ptr d => uptoBulk d + 1
  | .slice elems spare => uptoBulkAll elems + uptoBulkAll spare + 1
  | .agg parts => uptoBulkAll parts + 1
  | .iface _ d => uptoBulk d + 1
  | .map entries => uptoBulkEntries entries + 1
  | .held _ => 1
def uptoBulkAll {H : Type} : List (DataW H) → Nat
  | [] => 0
  | d :: r => uptoBulk d + uptoBulkAll r
def uptoBulkEntries {H : Type} : List (Lit × DataW H) → Nat
  | [] => 0
  | x :: r => uptoBulkEntry x + uptoBulkEntries r
def uptoBulkEntry {H : Type} : Lit × DataW H → Nat
  | (.string bytes, d) => bytes.length + uptoBulk d + 1
  | (_, d) => uptoBulk d + 1
 end
def uptoSmall : (H : Type) → List (DataW H) → Bool := fun _ ds => decide (uptoBulkAll ds ≤ 1048576)
def OpenSpec.upto (s : _root_.Go.ChangeSpec) : _root_.Go.OpenSpec := { _root_.Go.OpenSpec.ofChange s with cond := some uptoSmall }

/-- 'laws.FnExactOpenIn', WHERE WHAT IT READS IS OF BULK AT MOST 1048576: true; the input reads as it did. -/
def fnExactOpenInUptoRow : OpenClaim := { program := "ytligcknlmbgbiaa", sum := "602b41b45e635c7f29e278c2f0eaf7481fe112d15a57b7336215e264f0fae1a4", func := "loop.example/g00527/laws.FnExactOpenIn", spec := "fnExactOpenIn", unfollowed := true, recurses := true, apart := false, narrowed := true }
def FnExactOpenInUptoSaid : Prop := fnExactOpenInUptoRow.holds Try.pinned (OpenSpec.upto fnExactOpenInSpec)

/-- 'laws.FnExactSendNext', WHERE WHAT IT READS IS OF BULK AT MOST 1048576: true; the input reads as it did. -/
def fnExactSendNextUptoRow : OpenClaim := { program := "ytligcknlmbgbiaa", sum := "602b41b45e635c7f29e278c2f0eaf7481fe112d15a57b7336215e264f0fae1a4", func := "loop.example/g00527/laws.FnExactSendNext", spec := "fnExactSendNext", unfollowed := true, recurses := true, apart := false, narrowed := true }
def FnExactSendNextUptoSaid : Prop := fnExactSendNextUptoRow.holds Try.pinned (OpenSpec.upto fnExactSendNextSpec)

/-- 'laws.FnExactHearSpans', WHERE WHAT IT READS IS OF BULK AT MOST 1048576: true; the input reads as it did. -/
def fnExactHearSpansUptoRow : OpenClaim := { program := "ytligcknlmbgbiaa", sum := "602b41b45e635c7f29e278c2f0eaf7481fe112d15a57b7336215e264f0fae1a4", func := "loop.example/g00527/laws.FnExactHearSpans", spec := "fnExactHearSpans", unfollowed := true, recurses := true, apart := false, narrowed := true }
def FnExactHearSpansUptoSaid : Prop := fnExactHearSpansUptoRow.holds Try.pinned (OpenSpec.upto fnExactHearSpansSpec)

/-- 'laws.FnExactPlayHeard', WHERE WHAT IT READS IS OF BULK AT MOST 1048576: true; the input reads as it did. -/
def fnExactPlayHeardUptoRow : OpenClaim := { program := "ytligcknlmbgbiaa", sum := "602b41b45e635c7f29e278c2f0eaf7481fe112d15a57b7336215e264f0fae1a4", func := "loop.example/g00527/laws.FnExactPlayHeard", spec := "fnExactPlayHeard", unfollowed := true, recurses := true, apart := false, narrowed := true }
def FnExactPlayHeardUptoSaid : Prop := fnExactPlayHeardUptoRow.holds Try.pinned (OpenSpec.upto fnExactPlayHeardSpec)

/-- 'laws.FnExactAcksOf', WHERE WHAT IT READS IS OF BULK AT MOST 1048576: true; the input reads as it did. -/
def fnExactAcksOfUptoRow : OpenClaim := { program := "ytligcknlmbgbiaa", sum := "602b41b45e635c7f29e278c2f0eaf7481fe112d15a57b7336215e264f0fae1a4", func := "loop.example/g00527/laws.FnExactAcksOf", spec := "fnExactAcksOf", unfollowed := true, recurses := true, apart := false, narrowed := true }
def FnExactAcksOfUptoSaid : Prop := fnExactAcksOfUptoRow.holds Try.pinned (OpenSpec.upto fnExactAcksOfSpec)

end Rows
end Go.Proofs.Ytligcknlmbgbiaa
