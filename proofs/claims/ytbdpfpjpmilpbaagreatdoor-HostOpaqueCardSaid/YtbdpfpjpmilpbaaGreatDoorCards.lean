/-
  DERIVED. GIVEN WITH THE SEED: THE CARDS: each row of YtbdpfpjpmilpbaaGreatDoorRows.lean that lists a variable, with what it lists TIED to the program's text (the seventh form; the later family's looks); each row that meets fmt, with fmt's text TOLD by the authors' own Lean function (tested against real Go, not proved from fmt's source: count such statements apart). THE CARD IS WHAT COUNTS. Prove the row's statement (the work); the ties are given (YtbdpfpjpmilpbaaGreatDoorTie.lean); close each card by the builder's one call (the guide's Derived/Test/ToyasCard.lean, 'card_holds'). Laid BY PROGRAM, IN A SANDBOX (cutbox-door.mjs). By AI agents, Wed Nov 11 2026. No macro, syntax, notation, axiom, sorry.
-/
import Derived.Test.YtbdpfpjpmilpbaaGreatDoorRows
import GoSem.ClaimSeven
namespace Go.Proofs.YtbdpfpjpmilpbaaGreatDoor
namespace Rows

/-- THE TIED CARD OF 'portcullislaw12.HostOpaque'. -/
def hostOpaqueCard : Claim7 := { stood := { row := hostOpaqueRow, standIns := [], harness := (true, "ce6db87a7f1b09baec9b40b097c5027fdbe91208bd85ab40cdfb9e8b9a25e68b"), looks := true }, kinds := [], alts := [], laidByText := true, laidKinds := [.data, .data, .data, .data, .pinned], laidTests := true, laidLooks := .later }
def HostOpaqueCardSaid : Prop := Claim7.holds Tryz.pinned (.plain (OpenSpec.ofChange hostOpaqueSpec)) hostOpaqueCard

/-- THE SECOND FORM's CARD OF 'portcullislaw12.HostOpaque'. -/
def hostOpaqueUptoCard : Claim7 := { stood := { row := hostOpaqueUptoRow, standIns := [], harness := (true, "ce6db87a7f1b09baec9b40b097c5027fdbe91208bd85ab40cdfb9e8b9a25e68b"), looks := true }, kinds := [], alts := [], laidByText := true, laidKinds := [.data, .data, .data, .data, .pinned], laidTests := true, laidLooks := .later }
def HostOpaqueUptoCardSaid : Prop := Claim7.holds Tryz.pinned (.plain (OpenSpec.upto hostOpaqueSpec)) hostOpaqueUptoCard
end Rows
end Go.Proofs.YtbdpfpjpmilpbaaGreatDoor
