/-
  DERIVED. GIVEN WITH THE SEED: THE CARDS: each row of YtlmpigpkdelopaaDoorRows.lean that lists a variable, with what it lists TIED to the program's text (the seventh form; the later family's looks); each row that meets fmt, with fmt's text TOLD by the authors' own Lean function (tested against real Go, not proved from fmt's source: count such statements apart). THE CARD IS WHAT COUNTS. Prove the row's statement (the work); the ties are given (YtlmpigpkdelopaaDoorTie.lean); close each card by the builder's one call (the guide's Derived/Test/ToyasCard.lean, 'card_holds'). Laid BY PROGRAM, IN A SANDBOX (cutbox-door.mjs). By AI agents, Wed Nov 11 2026. No macro, syntax, notation, axiom, sorry.
-/
import Derived.Test.YtlmpigpkdelopaaDoorRows
import GoSem.ClaimSeven
namespace Go.Proofs.YtlmpigpkdelopaaDoor
namespace Rows

/-- THE TIED CARD OF 'portcullislaw09.PctBack'. -/
def pctBackCard : Claim7 := { stood := { row := pctBackRow, standIns := [], harness := (true, "12492f7555ce8bfc93c0271c03aefe294d213c606d679c24853d672875dc30da"), looks := false }, kinds := [], alts := [], laidByText := true, laidKinds := [.data, .pinned], laidTests := true, laidLooks := .later }
def PctBackCardSaid : Prop := Claim7.holds Tryd.pinned (.plain (OpenSpec.ofChange pctBackSpec)) pctBackCard

/-- THE TIED CARD OF 'portcullislaw09.PctTwice'. -/
def pctTwiceCard : Claim7 := { stood := { row := pctTwiceRow, standIns := [], harness := (true, "12492f7555ce8bfc93c0271c03aefe294d213c606d679c24853d672875dc30da"), looks := false }, kinds := [], alts := [], laidByText := true, laidKinds := [.data, .pinned], laidTests := true, laidLooks := .later }
def PctTwiceCardSaid : Prop := Claim7.holds Tryd.pinned (.plain (OpenSpec.ofChange pctTwiceSpec)) pctTwiceCard

/-- THE TIED CARD OF 'portcullislaw09.PctJoins'. -/
def pctJoinsCard : Claim7 := { stood := { row := pctJoinsRow, standIns := [], harness := (true, "12492f7555ce8bfc93c0271c03aefe294d213c606d679c24853d672875dc30da"), looks := false }, kinds := [], alts := [], laidByText := true, laidKinds := [.data, .pinned], laidTests := true, laidLooks := .later }
def PctJoinsCardSaid : Prop := Claim7.holds Tryd.pinned (.plain (OpenSpec.ofChange pctJoinsSpec)) pctJoinsCard

/-- THE SECOND FORM's CARD OF 'portcullislaw09.PctBack'. -/
def pctBackUptoCard : Claim7 := { stood := { row := pctBackUptoRow, standIns := [], harness := (true, "12492f7555ce8bfc93c0271c03aefe294d213c606d679c24853d672875dc30da"), looks := false }, kinds := [], alts := [], laidByText := true, laidKinds := [.data, .pinned], laidTests := true, laidLooks := .later }
def PctBackUptoCardSaid : Prop := Claim7.holds Tryd.pinned (.plain (OpenSpec.upto pctBackSpec)) pctBackUptoCard

/-- THE SECOND FORM's CARD OF 'portcullislaw09.PctTwice'. -/
def pctTwiceUptoCard : Claim7 := { stood := { row := pctTwiceUptoRow, standIns := [], harness := (true, "12492f7555ce8bfc93c0271c03aefe294d213c606d679c24853d672875dc30da"), looks := false }, kinds := [], alts := [], laidByText := true, laidKinds := [.data, .pinned], laidTests := true, laidLooks := .later }
def PctTwiceUptoCardSaid : Prop := Claim7.holds Tryd.pinned (.plain (OpenSpec.upto pctTwiceSpec)) pctTwiceUptoCard

/-- THE SECOND FORM's CARD OF 'portcullislaw09.PctJoins'. -/
def pctJoinsUptoCard : Claim7 := { stood := { row := pctJoinsUptoRow, standIns := [], harness := (true, "12492f7555ce8bfc93c0271c03aefe294d213c606d679c24853d672875dc30da"), looks := false }, kinds := [], alts := [], laidByText := true, laidKinds := [.data, .pinned], laidTests := true, laidLooks := .later }
def PctJoinsUptoCardSaid : Prop := Claim7.holds Tryd.pinned (.plain (OpenSpec.upto pctJoinsSpec)) pctJoinsUptoCard
end Rows
end Go.Proofs.YtlmpigpkdelopaaDoor
