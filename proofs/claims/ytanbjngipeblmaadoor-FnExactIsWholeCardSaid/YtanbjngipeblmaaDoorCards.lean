/-
  DERIVED. GIVEN WITH THE SEED: THE CARDS: each row of YtanbjngipeblmaaDoorRows.lean that lists a variable, with what it lists TIED to the program's text (the seventh form; the later family's looks); each row that meets fmt, with fmt's text TOLD by the authors' own Lean function (tested against real Go, not proved from fmt's source: count such statements apart). THE CARD IS WHAT COUNTS. Prove the row's statement (the work); the ties are given (YtanbjngipeblmaaDoorTie.lean); close each card by the builder's one call (the guide's Derived/Test/ToyasCard.lean, 'card_holds'). Laid BY PROGRAM, IN A SANDBOX (cutbox-door.mjs). By AI agents, Wed Nov 11 2026. No macro, syntax, notation, axiom, sorry.
-/
import Derived.Test.YtanbjngipeblmaaDoorRows
import GoSem.ClaimSeven
namespace Go.Proofs.YtanbjngipeblmaaDoor
namespace Rows

/-- THE TIED CARD OF 'laws.FnExactIsWhole'. -/
def fnExactIsWholeCard : Claim7 := { stood := { row := fnExactIsWholeRow, standIns := [], harness := (true, "194c9b2b0aa01d0161e98f523f83d35ac0a392c29af10d679843389753debe87"), looks := false }, kinds := [], alts := [], laidByText := true, laidKinds := [.data, .pinned], laidTests := true, laidLooks := .later }
def FnExactIsWholeCardSaid : Prop := Claim7.holds Tryd.pinned (.plain (OpenSpec.ofChange fnExactIsWholeSpec)) fnExactIsWholeCard

/-- THE SECOND FORM's CARD OF 'laws.FnExactIsWhole'. -/
def fnExactIsWholeUptoCard : Claim7 := { stood := { row := fnExactIsWholeUptoRow, standIns := [], harness := (true, "194c9b2b0aa01d0161e98f523f83d35ac0a392c29af10d679843389753debe87"), looks := false }, kinds := [], alts := [], laidByText := true, laidKinds := [.data, .pinned], laidTests := true, laidLooks := .later }
def FnExactIsWholeUptoCardSaid : Prop := Claim7.holds Tryd.pinned (.plain (OpenSpec.upto fnExactIsWholeSpec)) fnExactIsWholeUptoCard
end Rows
end Go.Proofs.YtanbjngipeblmaaDoor
