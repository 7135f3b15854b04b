/-
  DERIVED. GIVEN WITH THE SEED: THE CARDS: each row of YtcideebbbdjlgaaGreatDoorRows.lean that lists a variable, with what it lists TIED to the program's text (the seventh form; the later family's looks); each row that meets fmt, with fmt's text TOLD by the authors' own Lean function (tested against real Go, not proved from fmt's source: count such statements apart). THE CARD IS WHAT COUNTS. Prove the row's statement (the work); the ties are given (YtcideebbbdjlgaaGreatDoorTie.lean); close each card by the builder's one call (the guide's Derived/Test/ToyasCard.lean, 'card_holds'). Laid BY PROGRAM, IN A SANDBOX (cutbox-door.mjs). By AI agents, Wed Nov 11 2026. No macro, syntax, notation, axiom, sorry.
-/
import Derived.Test.YtcideebbbdjlgaaGreatDoorRows
import GoSem.ClaimSeven
namespace Go.Proofs.YtcideebbbdjlgaaGreatDoor
namespace Rows

/-- THE TIED CARD OF 'portcullislaw29.ProxyNone'. -/
def proxyNoneCard : Claim7 := { stood := { row := proxyNoneRow, standIns := [], harness := (true, "9138d67fd65dce279d3c5d24c370437a44fd66c04f1bab031ab91fa01f71da0a"), looks := true }, kinds := [], alts := [], laidByText := true, laidKinds := [.pinned, .data, .data, .data, .data, .sentinel, .sentinel, .pinned], laidTests := true, laidLooks := .later }
def ProxyNoneCardSaid : Prop := Claim7.holds Tryz.pinned (.plain (OpenSpec.ofChange proxyNoneSpec)) proxyNoneCard

/-- THE SECOND FORM's CARD OF 'portcullislaw29.ProxyNone'. -/
def proxyNoneUptoCard : Claim7 := { stood := { row := proxyNoneUptoRow, standIns := [], harness := (true, "9138d67fd65dce279d3c5d24c370437a44fd66c04f1bab031ab91fa01f71da0a"), looks := true }, kinds := [], alts := [], laidByText := true, laidKinds := [.pinned, .data, .data, .data, .data, .sentinel, .sentinel, .pinned], laidTests := true, laidLooks := .later }
def ProxyNoneUptoCardSaid : Prop := Claim7.holds Tryz.pinned (.plain (OpenSpec.upto proxyNoneSpec)) proxyNoneUptoCard
end Rows
end Go.Proofs.YtcideebbbdjlgaaGreatDoor
