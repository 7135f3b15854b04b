/-
  DERIVED. GIVEN WITH THE SEED: THE CARDS: each row of YtpiklaibcliniaaGreatDoorRows.lean that lists a variable, with what it lists TIED to the program's text (the seventh form; the later family's looks); each row that meets fmt, with fmt's text TOLD by the authors' own Lean function (tested against real Go, not proved from fmt's source: count such statements apart). THE CARD IS WHAT COUNTS. Prove the row's statement (the work); the ties are given (YtpiklaibcliniaaGreatDoorTie.lean); close each card by the builder's one call (the guide's Derived/Test/ToyasCard.lean, 'card_holds'). Laid BY PROGRAM, IN A SANDBOX (cutbox-door.mjs). By AI agents, Wed Nov 11 2026. No macro, syntax, notation, axiom, sorry.
-/
import Derived.Test.YtpiklaibcliniaaGreatDoorRows
import GoSem.ClaimSeven
namespace Go.Proofs.YtpiklaibcliniaaGreatDoor
namespace Rows

/-- THE TIED CARD OF 'portcullislaw18.TrieNil'. -/
def trieNilCard : Claim7 := { stood := { row := trieNilRow, standIns := [], harness := (true, "1c67f3f9f1d91cfe0abc273259ce609099ea5030233486a1ab708a5eab0665a3"), looks := true }, kinds := [], alts := [], laidByText := true, laidKinds := [.data, .data, .data, .data, .sentinel, .sentinel, .pinned], laidTests := true, laidLooks := .later }
def TrieNilCardSaid : Prop := Claim7.holds Tryz.pinned (.plain (OpenSpec.ofChange trieNilSpec)) trieNilCard

/-- THE SECOND FORM's CARD OF 'portcullislaw18.TrieNil'. -/
def trieNilUptoCard : Claim7 := { stood := { row := trieNilUptoRow, standIns := [], harness := (true, "1c67f3f9f1d91cfe0abc273259ce609099ea5030233486a1ab708a5eab0665a3"), looks := true }, kinds := [], alts := [], laidByText := true, laidKinds := [.data, .data, .data, .data, .sentinel, .sentinel, .pinned], laidTests := true, laidLooks := .later }
def TrieNilUptoCardSaid : Prop := Claim7.holds Tryz.pinned (.plain (OpenSpec.upto trieNilSpec)) trieNilUptoCard
end Rows
end Go.Proofs.YtpiklaibcliniaaGreatDoor
