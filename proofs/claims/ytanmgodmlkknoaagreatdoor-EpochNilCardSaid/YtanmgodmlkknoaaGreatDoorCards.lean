/-
  DERIVED. GIVEN WITH THE SEED: THE CARDS: each row of YtanmgodmlkknoaaGreatDoorRows.lean that lists a variable, with what it lists TIED to the program's text (the seventh form; the later family's looks); each row that meets fmt, with fmt's text TOLD by the authors' own Lean function (tested against real Go, not proved from fmt's source: count such statements apart). THE CARD IS WHAT COUNTS. Prove the row's statement (the work); the ties are given (YtanmgodmlkknoaaGreatDoorTie.lean); close each card by the builder's one call (the guide's Derived/Test/ToyasCard.lean, 'card_holds'). Laid BY PROGRAM, IN A SANDBOX (cutbox-door.mjs). By AI agents, Wed Nov 11 2026. No macro, syntax, notation, axiom, sorry.
-/
import Derived.Test.YtanmgodmlkknoaaGreatDoorRows
import GoSem.ClaimSeven
namespace Go.Proofs.YtanmgodmlkknoaaGreatDoor
namespace Rows

/-- THE TIED CARD OF 'portcullislaw25.EpochNil'. -/
def epochNilCard : Claim7 := { stood := { row := epochNilRow, standIns := [], harness := (true, "711d8ad58c1b8bf6057f5f57543b9091d515efbcdb7f352fa48ac6daa3da9655"), looks := true }, kinds := [], alts := [], laidByText := true, laidKinds := [.data, .data, .data, .data, .sentinel, .sentinel, .pinned], laidTests := true, laidLooks := .later }
def EpochNilCardSaid : Prop := Claim7.holds Tryz.pinned (.plain (OpenSpec.ofChange epochNilSpec)) epochNilCard

/-- THE SECOND FORM's CARD OF 'portcullislaw25.EpochNil'. -/
def epochNilUptoCard : Claim7 := { stood := { row := epochNilUptoRow, standIns := [], harness := (true, "711d8ad58c1b8bf6057f5f57543b9091d515efbcdb7f352fa48ac6daa3da9655"), looks := true }, kinds := [], alts := [], laidByText := true, laidKinds := [.data, .data, .data, .data, .sentinel, .sentinel, .pinned], laidTests := true, laidLooks := .later }
def EpochNilUptoCardSaid : Prop := Claim7.holds Tryz.pinned (.plain (OpenSpec.upto epochNilSpec)) epochNilUptoCard
end Rows
end Go.Proofs.YtanmgodmlkknoaaGreatDoor
