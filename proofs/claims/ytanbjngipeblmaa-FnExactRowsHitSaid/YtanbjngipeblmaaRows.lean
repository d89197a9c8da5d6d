/-
  No cell of these rows narrows 'for every input' (looked for: loops, veiled, ifaces, maps, wideKeys, modest, calm, conditions, laid).
  DERIVED. THE GIVEN ROWS OF THIS SEAT. 9 by the template 'for every input the law returns true; each argument reads behind the call as it read before'; 0 by the template 'total and deterministic' (their statements: YtanbjngipeblmaaTotals.lean).
  GIVEN WITH THE SEED: the statements are not yours to turn. If you find one false, say at which input.
  Laid BY PROGRAM, IN A SANDBOX (cutbox-rows.mjs): the forced cells as the released guide's own fill.sh prints them over the translation aee5ad1e58b97ce4… (all of the seat's roots in one cut). By AI agents, Wed Nov 11 2026. No macro, syntax, notation, axiom, sorry.
-/
import Derived.Test.YtanbjngipeblmaaChecked
import GoSem.Claim
import GoSem.ClaimJoined
import GoSem.ClaimMapViews
import Derived.JoinedTies
import Derived.KernelRfl
namespace Go.Proofs.Ytanbjngipeblmaa
/- THE CELL 'sum', in the pinned program and in every row, IS THE sha256 OF THE DUMP (.gsa) THAT YtanbjngipeblmaaProg.lean LOADS. Nothing in Lean hashes anything: it is a label: what it is worth is what the hold of that sum in a sandbox is worth. -/
noncomputable def Try.pinned : Pinned := { name := "ytanbjngipeblmaa", sum := "aee5ad1e58b97ce4e15bf14f8356fb54acafcb05b17b5da6469632aa24293b63", checked := Try.checked }
namespace Rows
def none {H : Type} : Left H := { results := [], args := [] }

/-- 'laws.FnExactBurstOf': WHATEVER THE INPUT: true; the input reads as it did. -/
def fnExactBurstOfSpec : ChangeSpec := { name := "fnExactBurstOf", fn := fun _ => fun
  | [d1, d2, d3] => { results := [.lit (.bool true)], args := [d1, d2, d3] }
  | _ => none }
def fnExactBurstOfRow : OpenClaim := { program := "ytanbjngipeblmaa", sum := "aee5ad1e58b97ce4e15bf14f8356fb54acafcb05b17b5da6469632aa24293b63", func := "loop.example/g00527/laws.FnExactBurstOf", spec := "fnExactBurstOf", apart := false }
def FnExactBurstOfSaid : Prop := fnExactBurstOfRow.holds Try.pinned (OpenSpec.ofChange fnExactBurstOfSpec)

/-- ITS FALSE NEIGHBOUR: 'it returns false'. Refute it at one input. -/
def fnExactBurstOfWrong : ChangeSpec := { name := "fnExactBurstOf", fn := fun _ => fun
  | [d1, d2, d3] => { results := [.lit (.bool false)], args := [d1, d2, d3] }
  | _ => none }
def FnExactBurstOfWrongFalsely : Prop := fnExactBurstOfRow.holds Try.pinned (OpenSpec.ofChange fnExactBurstOfWrong)

/-- 'laws.FnExactInterleave': WHATEVER THE INPUT: true; the input reads as it did. -/
def fnExactInterleaveSpec : ChangeSpec := { name := "fnExactInterleave", fn := fun _ => fun
  | [d1, d2] => { results := [.lit (.bool true)], args := [d1, d2] }
  | _ => none }
def fnExactInterleaveRow : OpenClaim := { program := "ytanbjngipeblmaa", sum := "aee5ad1e58b97ce4e15bf14f8356fb54acafcb05b17b5da6469632aa24293b63", func := "loop.example/g00527/laws.FnExactInterleave", spec := "fnExactInterleave", unfollowed := true, recurses := true, apart := false }
def FnExactInterleaveSaid : Prop := fnExactInterleaveRow.holds Try.pinned (OpenSpec.ofChange fnExactInterleaveSpec)

/-- ITS FALSE NEIGHBOUR: 'it returns false'. Refute it at one input. -/
def fnExactInterleaveWrong : ChangeSpec := { name := "fnExactInterleave", fn := fun _ => fun
  | [d1, d2] => { results := [.lit (.bool false)], args := [d1, d2] }
  | _ => none }
def FnExactInterleaveWrongFalsely : Prop := fnExactInterleaveRow.holds Try.pinned (OpenSpec.ofChange fnExactInterleaveWrong)

/-- 'laws.FnExactDeinterleave': WHATEVER THE INPUT: true; the input reads as it did. -/
def fnExactDeinterleaveSpec : ChangeSpec := { name := "fnExactDeinterleave", fn := fun _ => fun
  | [d1, d2] => { results := [.lit (.bool true)], args := [d1, d2] }
  | _ => none }
def fnExactDeinterleaveRow : OpenClaim := { program := "ytanbjngipeblmaa", sum := "aee5ad1e58b97ce4e15bf14f8356fb54acafcb05b17b5da6469632aa24293b63", func := "loop.example/g00527/laws.FnExactDeinterleave", spec := "fnExactDeinterleave", unfollowed := true, recurses := true, apart := false }
def FnExactDeinterleaveSaid : Prop := fnExactDeinterleaveRow.holds Try.pinned (OpenSpec.ofChange fnExactDeinterleaveSpec)

/-- ITS FALSE NEIGHBOUR: 'it returns false'. Refute it at one input. -/
def fnExactDeinterleaveWrong : ChangeSpec := { name := "fnExactDeinterleave", fn := fun _ => fun
  | [d1, d2] => { results := [.lit (.bool false)], args := [d1, d2] }
  | _ => none }
def FnExactDeinterleaveWrongFalsely : Prop := fnExactDeinterleaveRow.holds Try.pinned (OpenSpec.ofChange fnExactDeinterleaveWrong)

/-- 'laws.FnExactParityOf': WHATEVER THE INPUT: true; the input reads as it did. -/
def fnExactParityOfSpec : ChangeSpec := { name := "fnExactParityOf", fn := fun _ => fun
  | [d] => { results := [.lit (.bool true)], args := [d] }
  | _ => none }
def fnExactParityOfRow : OpenClaim := { program := "ytanbjngipeblmaa", sum := "aee5ad1e58b97ce4e15bf14f8356fb54acafcb05b17b5da6469632aa24293b63", func := "loop.example/g00527/laws.FnExactParityOf", spec := "fnExactParityOf", unfollowed := true, recurses := true, apart := false }
def FnExactParityOfSaid : Prop := fnExactParityOfRow.holds Try.pinned (OpenSpec.ofChange fnExactParityOfSpec)

/-- ITS FALSE NEIGHBOUR: 'it returns false'. Refute it at one input. -/
def fnExactParityOfWrong : ChangeSpec := { name := "fnExactParityOf", fn := fun _ => fun
  | [d] => { results := [.lit (.bool false)], args := [d] }
  | _ => none }
def FnExactParityOfWrongFalsely : Prop := fnExactParityOfRow.holds Try.pinned (OpenSpec.ofChange fnExactParityOfWrong)

/-- 'laws.FnExactMendPiece': WHATEVER THE INPUT: true; the input reads as it did. -/
def fnExactMendPieceSpec : ChangeSpec := { name := "fnExactMendPiece", fn := fun _ => fun
  | [d1, d2] => { results := [.lit (.bool true)], args := [d1, d2] }
  | _ => none }
def fnExactMendPieceRow : OpenClaim := { program := "ytanbjngipeblmaa", sum := "aee5ad1e58b97ce4e15bf14f8356fb54acafcb05b17b5da6469632aa24293b63", func := "loop.example/g00527/laws.FnExactMendPiece", spec := "fnExactMendPiece", unfollowed := true, recurses := true, apart := false }
def FnExactMendPieceSaid : Prop := fnExactMendPieceRow.holds Try.pinned (OpenSpec.ofChange fnExactMendPieceSpec)

/-- ITS FALSE NEIGHBOUR: 'it returns false'. Refute it at one input. -/
def fnExactMendPieceWrong : ChangeSpec := { name := "fnExactMendPiece", fn := fun _ => fun
  | [d1, d2] => { results := [.lit (.bool false)], args := [d1, d2] }
  | _ => none }
def FnExactMendPieceWrongFalsely : Prop := fnExactMendPieceRow.holds Try.pinned (OpenSpec.ofChange fnExactMendPieceWrong)

/-- 'laws.FnExactWithParity': WHATEVER THE INPUT: true; the input reads as it did. -/
def fnExactWithParitySpec : ChangeSpec := { name := "fnExactWithParity", fn := fun _ => fun
  | [d] => { results := [.lit (.bool true)], args := [d] }
  | _ => none }
def fnExactWithParityRow : OpenClaim := { program := "ytanbjngipeblmaa", sum := "aee5ad1e58b97ce4e15bf14f8356fb54acafcb05b17b5da6469632aa24293b63", func := "loop.example/g00527/laws.FnExactWithParity", spec := "fnExactWithParity", unfollowed := true, recurses := true, apart := false }
def FnExactWithParitySaid : Prop := fnExactWithParityRow.holds Try.pinned (OpenSpec.ofChange fnExactWithParitySpec)

/-- ITS FALSE NEIGHBOUR: 'it returns false'. Refute it at one input. -/
def fnExactWithParityWrong : ChangeSpec := { name := "fnExactWithParity", fn := fun _ => fun
  | [d] => { results := [.lit (.bool false)], args := [d] }
  | _ => none }
def FnExactWithParityWrongFalsely : Prop := fnExactWithParityRow.holds Try.pinned (OpenSpec.ofChange fnExactWithParityWrong)

/-- 'laws.FnExactJoinPieces': WHATEVER THE INPUT: true; the input reads as it did. -/
def fnExactJoinPiecesSpec : ChangeSpec := { name := "fnExactJoinPieces", fn := fun _ => fun
  | [d1, d2] => { results := [.lit (.bool true)], args := [d1, d2] }
  | _ => none }
def fnExactJoinPiecesRow : OpenClaim := { program := "ytanbjngipeblmaa", sum := "aee5ad1e58b97ce4e15bf14f8356fb54acafcb05b17b5da6469632aa24293b63", func := "loop.example/g00527/laws.FnExactJoinPieces", spec := "fnExactJoinPieces", inPlace := ["internal/abi.NoEscape", "internal/bytealg.MakeNoZero"], unfollowed := true, recurses := true, apart := false }
def FnExactJoinPiecesSaid : Prop := fnExactJoinPiecesRow.holds Try.pinned (OpenSpec.ofChange fnExactJoinPiecesSpec)

/-- ITS FALSE NEIGHBOUR: 'it returns false'. Refute it at one input. -/
def fnExactJoinPiecesWrong : ChangeSpec := { name := "fnExactJoinPieces", fn := fun _ => fun
  | [d1, d2] => { results := [.lit (.bool false)], args := [d1, d2] }
  | _ => none }
def FnExactJoinPiecesWrongFalsely : Prop := fnExactJoinPiecesRow.holds Try.pinned (OpenSpec.ofChange fnExactJoinPiecesWrong)

/-- 'laws.FnExactSplitPieces': WHATEVER THE INPUT: true; the input reads as it did. -/
def fnExactSplitPiecesSpec : ChangeSpec := { name := "fnExactSplitPieces", fn := fun _ => fun
  | [d1, d2] => { results := [.lit (.bool true)], args := [d1, d2] }
  | _ => none }
def fnExactSplitPiecesRow : OpenClaim := { program := "ytanbjngipeblmaa", sum := "aee5ad1e58b97ce4e15bf14f8356fb54acafcb05b17b5da6469632aa24293b63", func := "loop.example/g00527/laws.FnExactSplitPieces", spec := "fnExactSplitPieces", inPlace := ["internal/abi.NoEscape", "internal/bytealg.MakeNoZero"], apart := false }
def FnExactSplitPiecesSaid : Prop := fnExactSplitPiecesRow.holds Try.pinned (OpenSpec.ofChange fnExactSplitPiecesSpec)

/-- ITS FALSE NEIGHBOUR: 'it returns false'. Refute it at one input. -/
def fnExactSplitPiecesWrong : ChangeSpec := { name := "fnExactSplitPieces", fn := fun _ => fun
  | [d1, d2] => { results := [.lit (.bool false)], args := [d1, d2] }
  | _ => none }
def FnExactSplitPiecesWrongFalsely : Prop := fnExactSplitPiecesRow.holds Try.pinned (OpenSpec.ofChange fnExactSplitPiecesWrong)

/-- 'laws.FnExactRowsHit': WHATEVER THE INPUT: true; the input reads as it did. -/
def fnExactRowsHitSpec : ChangeSpec := { name := "fnExactRowsHit", fn := fun _ => fun
  | [d1, d2, d3, d4] => { results := [.lit (.bool true)], args := [d1, d2, d3, d4] }
  | _ => none }
def fnExactRowsHitRow : OpenClaim := { program := "ytanbjngipeblmaa", sum := "aee5ad1e58b97ce4e15bf14f8356fb54acafcb05b17b5da6469632aa24293b63", func := "loop.example/g00527/laws.FnExactRowsHit", spec := "fnExactRowsHit", recurses := true, apart := false }
def FnExactRowsHitSaid : Prop := fnExactRowsHitRow.holds Try.pinned (OpenSpec.ofChange fnExactRowsHitSpec)

/-- ITS FALSE NEIGHBOUR: 'it returns false'. Refute it at one input. -/
def fnExactRowsHitWrong : ChangeSpec := { name := "fnExactRowsHit", fn := fun _ => fun
  | [d1, d2, d3, d4] => { results := [.lit (.bool false)], args := [d1, d2, d3, d4] }
  | _ => none }
def FnExactRowsHitWrongFalsely : Prop := fnExactRowsHitRow.holds Try.pinned (OpenSpec.ofChange fnExactRowsHitWrong)

/- THE SECOND FORM. 'bulk': how many values and letters a reading holds, each counted each time it is reached (what is shared counts as often as it is met; a slice's spare places count too). A statement '..UptoSaid' is the law's where the arguments, and the package variables that the reading takes, are together of bulk at most 1048576: NARROWER than '..Said'. Prove '..Said' where nothing that the law and all that it calls make is longer than what came in: it says more and counts as full. Else prove '..UptoSaid'. A law counts once. -/
mutual
def uptoBulk {H : Type} : DataW H → Nat
  | .lit (.string bytes) => bytes.length + 1
  | .lit _ => 1
  | .nil => 1
  | .ptr d => uptoBulk d + 1
  | .slice elems spare => uptoBulkAll elems + uptoBulkAll spare + 1
  | .agg parts => uptoBulkAll parts + 1
  | .iface _ d => uptoBulk d + 1
  | .map entries => uptoBulkEntries entries + 1
  | .held _ => 1
def uptoBulkAll {H : Type} : List (DataW H) → Nat
  | [] => 0
  | d :: r => uptoBulk d + uptoBulkAll r
def uptoBulkEntries {H : Type} : List (Lit × DataW H) → Nat
  | [] => 0
  | x :: r => uptoBulkEntry x + uptoBulkEntries r
def uptoBulkEntry {H : Type} : Lit × DataW H → Nat
  | (.string bytes, d) => bytes.length + uptoBulk d + 1
  | (_, d) => uptoBulk d + 1
 end
def uptoSmall : (H : Type) → List (DataW H) → Bool := fun _ ds => decide (uptoBulkAll ds ≤ 1048576)
def OpenSpec.upto (s : _root_.Go.ChangeSpec) : _root_.Go.OpenSpec := { _root_.Go.OpenSpec.ofChange s with cond := some uptoSmall }

/-- 'laws.FnExactBurstOf', WHERE WHAT IT READS IS OF BULK AT MOST 1048576: true; the input reads as it did. -/
def fnExactBurstOfUptoRow : OpenClaim := { program := "ytanbjngipeblmaa", sum := "aee5ad1e58b97ce4e15bf14f8356fb54acafcb05b17b5da6469632aa24293b63", func := "loop.example/g00527/laws.FnExactBurstOf", spec := "fnExactBurstOf", apart := false, narrowed := true }
def FnExactBurstOfUptoSaid : Prop := fnExactBurstOfUptoRow.holds Try.pinned (OpenSpec.upto fnExactBurstOfSpec)

/-- 'laws.FnExactInterleave', WHERE WHAT IT READS IS OF BULK AT MOST 1048576: true; the input reads as it did. -/
def fnExactInterleaveUptoRow : OpenClaim := { program := "ytanbjngipeblmaa", sum := "aee5ad1e58b97ce4e15bf14f8356fb54acafcb05b17b5da6469632aa24293b63", func := "loop.example/g00527/laws.FnExactInterleave", spec := "fnExactInterleave", unfollowed := true, recurses := true, apart := false, narrowed := true }
def FnExactInterleaveUptoSaid : Prop := fnExactInterleaveUptoRow.holds Try.pinned (OpenSpec.upto fnExactInterleaveSpec)

/-- 'laws.FnExactDeinterleave', WHERE WHAT IT READS IS OF BULK AT MOST 1048576: true; the input reads as it did. -/
def fnExactDeinterleaveUptoRow : OpenClaim := { program := "ytanbjngipeblmaa", sum := "aee5ad1e58b97ce4e15bf14f8356fb54acafcb05b17b5da6469632aa24293b63", func := "loop.example/g00527/laws.FnExactDeinterleave", spec := "fnExactDeinterleave", unfollowed := true, recurses := true, apart := false, narrowed := true }
def FnExactDeinterleaveUptoSaid : Prop := fnExactDeinterleaveUptoRow.holds Try.pinned (OpenSpec.upto fnExactDeinterleaveSpec)

/-- 'laws.FnExactParityOf', WHERE WHAT IT READS IS OF BULK AT MOST 1048576: true; the input reads as it did. -/
def fnExactParityOfUptoRow : OpenClaim := { program := "ytanbjngipeblmaa", sum := "aee5ad1e58b97ce4e15bf14f8356fb54acafcb05b17b5da6469632aa24293b63", func := "loop.example/g00527/laws.FnExactParityOf", spec := "fnExactParityOf", unfollowed := true, recurses := true, apart := false, narrowed := true }
def FnExactParityOfUptoSaid : Prop := fnExactParityOfUptoRow.holds Try.pinned (OpenSpec.upto fnExactParityOfSpec)

/-- 'laws.FnExactMendPiece', WHERE WHAT IT READS IS OF BULK AT MOST 1048576: true; the input reads as it did. -/
def fnExactMendPieceUptoRow : OpenClaim := { program := "ytanbjngipeblmaa", sum := "aee5ad1e58b97ce4e15bf14f8356fb54acafcb05b17b5da6469632aa24293b63", func := "loop.example/g00527/laws.FnExactMendPiece", spec := "fnExactMendPiece", unfollowed := true, recurses := true, apart := false, narrowed := true }
def FnExactMendPieceUptoSaid : Prop := fnExactMendPieceUptoRow.holds Try.pinned (OpenSpec.upto fnExactMendPieceSpec)

/-- 'laws.FnExactWithParity', WHERE WHAT IT READS IS OF BULK AT MOST 1048576: true; the input reads as it did. -/
def fnExactWithParityUptoRow : OpenClaim := { program := "ytanbjngipeblmaa", sum := "aee5ad1e58b97ce4e15bf14f8356fb54acafcb05b17b5da6469632aa24293b63", func := "loop.example/g00527/laws.FnExactWithParity", spec := "fnExactWithParity", unfollowed := true, recurses := true, apart := false, narrowed := true }
def FnExactWithParityUptoSaid : Prop := fnExactWithParityUptoRow.holds Try.pinned (OpenSpec.upto fnExactWithParitySpec)

/-- 'laws.FnExactJoinPieces', WHERE WHAT IT READS IS OF BULK AT MOST 1048576: true; the input reads as it did. -/
def fnExactJoinPiecesUptoRow : OpenClaim := { program := "ytanbjngipeblmaa", sum := "aee5ad1e58b97ce4e15bf14f8356fb54acafcb05b17b5da6469632aa24293b63", func := "loop.example/g00527/laws.FnExactJoinPieces", spec := "fnExactJoinPieces", inPlace := ["internal/abi.NoEscape", "internal/bytealg.MakeNoZero"], unfollowed := true, recurses := true, apart := false, narrowed := true }
def FnExactJoinPiecesUptoSaid : Prop := fnExactJoinPiecesUptoRow.holds Try.pinned (OpenSpec.upto fnExactJoinPiecesSpec)

/-- 'laws.FnExactSplitPieces', WHERE WHAT IT READS IS OF BULK AT MOST 1048576: true; the input reads as it did. -/
def fnExactSplitPiecesUptoRow : OpenClaim := { program := "ytanbjngipeblmaa", sum := "aee5ad1e58b97ce4e15bf14f8356fb54acafcb05b17b5da6469632aa24293b63", func := "loop.example/g00527/laws.FnExactSplitPieces", spec := "fnExactSplitPieces", inPlace := ["internal/abi.NoEscape", "internal/bytealg.MakeNoZero"], apart := false, narrowed := true }
def FnExactSplitPiecesUptoSaid : Prop := fnExactSplitPiecesUptoRow.holds Try.pinned (OpenSpec.upto fnExactSplitPiecesSpec)

/-- 'laws.FnExactRowsHit', WHERE WHAT IT READS IS OF BULK AT MOST 1048576: true; the input reads as it did. -/
def fnExactRowsHitUptoRow : OpenClaim := { program := "ytanbjngipeblmaa", sum := "aee5ad1e58b97ce4e15bf14f8356fb54acafcb05b17b5da6469632aa24293b63", func := "loop.example/g00527/laws.FnExactRowsHit", spec := "fnExactRowsHit", recurses := true, apart := false, narrowed := true }
def FnExactRowsHitUptoSaid : Prop := fnExactRowsHitUptoRow.holds Try.pinned (OpenSpec.upto fnExactRowsHitSpec)

end Rows
end Go.Proofs.Ytanbjngipeblmaa
