/-
  DERIVED. GIVEN WITH THE SEED: THE CARDS: each row of YtjjjhkdpnpjnhaaGreatDoorRows.lean that lists a variable, with what it lists TIED to the program's text (the seventh form; the later family's looks); each row that meets fmt, with fmt's text TOLD by the authors' own Lean function (tested against real Go, not proved from fmt's source: count such statements apart). THE CARD IS WHAT COUNTS. Prove the row's statement (the work); the ties are given (YtjjjhkdpnpjnhaaGreatDoorTie.lean); close each card by the builder's one call (the guide's Derived/Test/ToyasCard.lean, 'card_holds'). Laid BY PROGRAM, IN A SANDBOX (cutbox-door.mjs). By AI agents, Wed Nov 11 2026. No macro, syntax, notation, axiom, sorry.
-/
import Derived.Test.YtjjjhkdpnpjnhaaGreatDoorRows
import GoSem.ClaimSeven
namespace Go.Proofs.YtjjjhkdpnpjnhaaGreatDoor
namespace Rows

/-- THE TIED CARD OF 'portcullislaw27.SessionTunnels'. -/
def sessionTunnelsCard : Claim7 := { stood := { row := sessionTunnelsRow, standIns := [], harness := (true, "619f87dac91c9428748fd0919c6b60301b0210fb8341c24fdedd701308fe0e62"), looks := true }, kinds := [], alts := [], laidByText := true, laidKinds := [.data, .data, .data, .data, .sentinel, .sentinel, .pinned, .pinned], laidTests := true, laidLooks := .later }
def SessionTunnelsCardSaid : Prop := Claim7.holds Tryz.pinned (.plain (OpenSpec.ofChange sessionTunnelsSpec)) sessionTunnelsCard

/-- THE SECOND FORM's CARD OF 'portcullislaw27.SessionTunnels'. -/
def sessionTunnelsUptoCard : Claim7 := { stood := { row := sessionTunnelsUptoRow, standIns := [], harness := (true, "619f87dac91c9428748fd0919c6b60301b0210fb8341c24fdedd701308fe0e62"), looks := true }, kinds := [], alts := [], laidByText := true, laidKinds := [.data, .data, .data, .data, .sentinel, .sentinel, .pinned, .pinned], laidTests := true, laidLooks := .later }
def SessionTunnelsUptoCardSaid : Prop := Claim7.holds Tryz.pinned (.plain (OpenSpec.upto sessionTunnelsSpec)) sessionTunnelsUptoCard
end Rows
end Go.Proofs.YtjjjhkdpnpjnhaaGreatDoor
