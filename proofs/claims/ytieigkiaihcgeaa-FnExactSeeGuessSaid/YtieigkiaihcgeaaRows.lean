/-
  No cell of these rows narrows 'for every input' (looked for: loops, veiled, ifaces, maps, wideKeys, modest, calm, conditions, laid).
  DERIVED. THE GIVEN ROWS OF THIS SEAT. 3 by the template 'for every input the law returns true; each argument reads behind the call as it read before'; 0 by the template 'total and deterministic' (their statements: YtieigkiaihcgeaaTotals.lean).
  GIVEN WITH THE SEED: the statements are not yours to turn. If you find one false, say at which input.
  Laid BY PROGRAM, IN A SANDBOX (cutbox-rows.mjs): the forced cells as the released guide's own fill.sh prints them over the translation 967724c299fcf94c… (all of the seat's roots in one cut). By AI agents, Wed Nov 11 2026. No macro, syntax, notation, axiom, sorry.
-/
import Derived.Test.YtieigkiaihcgeaaChecked
import GoSem.Claim
import GoSem.ClaimJoined
import GoSem.ClaimMapViews
import Derived.JoinedTies
import Derived.KernelRfl
namespace Go.Proofs.Ytieigkiaihcgeaa
/- THE CELL 'sum', in the pinned program and in every row, IS THE sha256 OF THE DUMP (.gsa) THAT YtieigkiaihcgeaaProg.lean LOADS. Nothing in Lean hashes anything: it is a label: what it is worth is what the hold of that sum in a sandbox is worth. -/
noncomputable def Try.pinned : Pinned := { name := "ytieigkiaihcgeaa", sum := "967724c299fcf94c442d7a5734a0eded2e82795076c6c9f0db79e9f091b45a33", checked := Try.checked }
namespace Rows
def none {H : Type} : Left H := { results := [], args := [] }

/-- 'laws.FnExactSeeGuess': WHATEVER THE INPUT: true; the input reads as it did. -/
def fnExactSeeGuessSpec : ChangeSpec := { name := "fnExactSeeGuess", fn := fun _ => fun
  | [d1, d2] => { results := [.lit (.bool true)], args := [d1, d2] }
  | _ => none }
def fnExactSeeGuessRow : OpenClaim := { program := "ytieigkiaihcgeaa", sum := "967724c299fcf94c442d7a5734a0eded2e82795076c6c9f0db79e9f091b45a33", func := "loop.example/g00527/laws.FnExactSeeGuess", spec := "fnExactSeeGuess", apart := false }
def FnExactSeeGuessSaid : Prop := fnExactSeeGuessRow.holds Try.pinned (OpenSpec.ofChange fnExactSeeGuessSpec)

/-- ITS FALSE NEIGHBOUR: 'it returns false'. Refute it at one input. -/
def fnExactSeeGuessWrong : ChangeSpec := { name := "fnExactSeeGuess", fn := fun _ => fun
  | [d1, d2] => { results := [.lit (.bool false)], args := [d1, d2] }
  | _ => none }
def FnExactSeeGuessWrongFalsely : Prop := fnExactSeeGuessRow.holds Try.pinned (OpenSpec.ofChange fnExactSeeGuessWrong)

/-- 'laws.FnExactSeeAll': WHATEVER THE INPUT: true; the input reads as it did. -/
def fnExactSeeAllSpec : ChangeSpec := { name := "fnExactSeeAll", fn := fun _ => fun
  | [d1, d2] => { results := [.lit (.bool true)], args := [d1, d2] }
  | _ => none }
def fnExactSeeAllRow : OpenClaim := { program := "ytieigkiaihcgeaa", sum := "967724c299fcf94c442d7a5734a0eded2e82795076c6c9f0db79e9f091b45a33", func := "loop.example/g00527/laws.FnExactSeeAll", spec := "fnExactSeeAll", apart := false }
def FnExactSeeAllSaid : Prop := fnExactSeeAllRow.holds Try.pinned (OpenSpec.ofChange fnExactSeeAllSpec)

/-- ITS FALSE NEIGHBOUR: 'it returns false'. Refute it at one input. -/
def fnExactSeeAllWrong : ChangeSpec := { name := "fnExactSeeAll", fn := fun _ => fun
  | [d1, d2] => { results := [.lit (.bool false)], args := [d1, d2] }
  | _ => none }
def FnExactSeeAllWrongFalsely : Prop := fnExactSeeAllRow.holds Try.pinned (OpenSpec.ofChange fnExactSeeAllWrong)

/-- 'laws.FnExactRangeOf': WHATEVER THE INPUT: true; the input reads as it did. -/
def fnExactRangeOfSpec : ChangeSpec := { name := "fnExactRangeOf", fn := fun _ => fun
  | [d] => { results := [.lit (.bool true)], args := [d] }
  | _ => none }
def fnExactRangeOfRow : OpenClaim := { program := "ytieigkiaihcgeaa", sum := "967724c299fcf94c442d7a5734a0eded2e82795076c6c9f0db79e9f091b45a33", func := "loop.example/g00527/laws.FnExactRangeOf", spec := "fnExactRangeOf", apart := false }
def FnExactRangeOfSaid : Prop := fnExactRangeOfRow.holds Try.pinned (OpenSpec.ofChange fnExactRangeOfSpec)

/-- ITS FALSE NEIGHBOUR: 'it returns false'. Refute it at one input. -/
def fnExactRangeOfWrong : ChangeSpec := { name := "fnExactRangeOf", fn := fun _ => fun
  | [d] => { results := [.lit (.bool false)], args := [d] }
  | _ => none }
def FnExactRangeOfWrongFalsely : Prop := fnExactRangeOfRow.holds Try.pinned (OpenSpec.ofChange fnExactRangeOfWrong)

/- THE SECOND FORM. 'bulk': how many values and letters a reading holds, each counted each time it is reached (what is shared counts as often as it is met; a slice's spare places count too). A statement '..UptoSaid' is the law's where the arguments, and the package variables that the reading takes, are together of bulk at most 1048576: NARROWER than '..Said'. Prove '..Said' where nothing that the law and all that it calls make is longer than what came in: it says more and counts as full. Else prove '..UptoSaid'. A law counts once. -/
mutual
def uptoBulk {H : Type} : DataW H → Nat
  | .lit (.string bytes) => bytes.length + 1
  | .lit _ => 1
  | .nil => 1
  | .ptr d => uptoBulk d + 1
  | .slice elems spare => uptoBulkAll elems + uptoBulkAll spare + 1
  | .agg parts => uptoBulkAll parts + 1
  | .iface _ d => uptoBulk d + 1
  | .map entries => uptoBulkEntries entries + 1
  | .held _ => 1
def uptoBulkAll {H : Type} : List (DataW H) → Nat
  | [] => 0
  | d :: r => uptoBulk d + uptoBulkAll r
def uptoBulkEntries {H : Type} : List (Lit × DataW H) → Nat
  | [] => 0
  | x :: r => uptoBulkEntry x + uptoBulkEntries r
def uptoBulkEntry {H : Type} : Lit × DataW H → Nat
  | (.string bytes, d) => bytes.length + uptoBulk d + 1
  | (_, d) => uptoBulk d + 1
 end
def uptoSmall : (H : Type) → List (DataW H) → Bool := fun _ ds => decide (uptoBulkAll ds ≤ 1048576)
def OpenSpec.upto (s : _root_.Go.ChangeSpec) : _root_.Go.OpenSpec := { _root_.Go.OpenSpec.ofChange s with cond := some uptoSmall }

/-- 'laws.FnExactSeeGuess', WHERE WHAT IT READS IS OF BULK AT MOST 1048576: true; the input reads as it did. -/
def fnExactSeeGuessUptoRow : OpenClaim := { program := "ytieigkiaihcgeaa", sum := "967724c299fcf94c442d7a5734a0eded2e82795076c6c9f0db79e9f091b45a33", func := "loop.example/g00527/laws.FnExactSeeGuess", spec := "fnExactSeeGuess", apart := false, narrowed := true }
def FnExactSeeGuessUptoSaid : Prop := fnExactSeeGuessUptoRow.holds Try.pinned (OpenSpec.upto fnExactSeeGuessSpec)

/-- 'laws.FnExactSeeAll', WHERE WHAT IT READS IS OF BULK AT MOST 1048576: true; the input reads as it did. -/
def fnExactSeeAllUptoRow : OpenClaim := { program := "ytieigkiaihcgeaa", sum := "967724c299fcf94c442d7a5734a0eded2e82795076c6c9f0db79e9f091b45a33", func := "loop.example/g00527/laws.FnExactSeeAll", spec := "fnExactSeeAll", apart := false, narrowed := true }
def FnExactSeeAllUptoSaid : Prop := fnExactSeeAllUptoRow.holds Try.pinned (OpenSpec.upto fnExactSeeAllSpec)

/-- 'laws.FnExactRangeOf', WHERE WHAT IT READS IS OF BULK AT MOST 1048576: true; the input reads as it did. -/
def fnExactRangeOfUptoRow : OpenClaim := { program := "ytieigkiaihcgeaa", sum := "967724c299fcf94c442d7a5734a0eded2e82795076c6c9f0db79e9f091b45a33", func := "loop.example/g00527/laws.FnExactRangeOf", spec := "fnExactRangeOf", apart := false, narrowed := true }
def FnExactRangeOfUptoSaid : Prop := fnExactRangeOfUptoRow.holds Try.pinned (OpenSpec.upto fnExactRangeOfSpec)

end Rows
end Go.Proofs.Ytieigkiaihcgeaa
