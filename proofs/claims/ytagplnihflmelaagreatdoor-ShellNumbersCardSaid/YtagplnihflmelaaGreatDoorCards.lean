/-
  DERIVED. GIVEN WITH THE SEED: THE CARDS: each row of YtagplnihflmelaaGreatDoorRows.lean that lists a variable, with what it lists TIED to the program's text (the seventh form; the later family's looks); each row that meets fmt, with fmt's text TOLD by the authors' own Lean function (tested against real Go, not proved from fmt's source: count such statements apart). THE CARD IS WHAT COUNTS. Prove the row's statement (the work); the ties are given (YtagplnihflmelaaGreatDoorTie.lean); close each card by the builder's one call (the guide's Derived/Test/ToyasCard.lean, 'card_holds'). Laid BY PROGRAM, IN A SANDBOX (cutbox-door.mjs). By AI agents, Wed Nov 11 2026. No macro, syntax, notation, axiom, sorry.
-/
import Derived.Test.YtagplnihflmelaaGreatDoorRows
import GoSem.ClaimSeven
namespace Go.Proofs.YtagplnihflmelaaGreatDoor
namespace Rows

/-- THE TIED CARD OF 'musterlaw30.ShellNumbers'. -/
def shellNumbersCard : Claim7 := { stood := { row := shellNumbersRow, standIns := [], harness := (true, "4b567afae337e977da796315d0a9877c7fe81da86cfafe47679112ab4af1a084"), looks := true }, kinds := [], alts := [], laidByText := true, laidKinds := [.data, .data, .data, .data, .sentinel, .sentinel, .pinned], laidTests := true, laidLooks := .later }
def ShellNumbersCardSaid : Prop := Claim7.holds Tryz.pinned (.plain (OpenSpec.ofChange shellNumbersSpec)) shellNumbersCard

/-- THE TIED CARD OF 'musterlaw30.ShellBlanks'. -/
def shellBlanksCard : Claim7 := { stood := { row := shellBlanksRow, standIns := [], harness := (true, "4b567afae337e977da796315d0a9877c7fe81da86cfafe47679112ab4af1a084"), looks := true }, kinds := [], alts := [], laidByText := true, laidKinds := [.data, .data, .data, .data, .sentinel, .sentinel, .pinned], laidTests := true, laidLooks := .later }
def ShellBlanksCardSaid : Prop := Claim7.holds Tryz.pinned (.plain (OpenSpec.ofChange shellBlanksSpec)) shellBlanksCard

/-- THE TIED CARD OF 'musterlaw30.ShellOrder'. -/
def shellOrderCard : Claim7 := { stood := { row := shellOrderRow, standIns := [], harness := (true, "4b567afae337e977da796315d0a9877c7fe81da86cfafe47679112ab4af1a084"), looks := true }, kinds := [], alts := [], laidByText := true, laidKinds := [.data, .data, .data, .data, .sentinel, .sentinel, .pinned], laidTests := true, laidLooks := .later }
def ShellOrderCardSaid : Prop := Claim7.holds Tryz.pinned (.plain (OpenSpec.ofChange shellOrderSpec)) shellOrderCard

/-- THE SECOND FORM's CARD OF 'musterlaw30.ShellNumbers'. -/
def shellNumbersUptoCard : Claim7 := { stood := { row := shellNumbersUptoRow, standIns := [], harness := (true, "4b567afae337e977da796315d0a9877c7fe81da86cfafe47679112ab4af1a084"), looks := true }, kinds := [], alts := [], laidByText := true, laidKinds := [.data, .data, .data, .data, .sentinel, .sentinel, .pinned], laidTests := true, laidLooks := .later }
def ShellNumbersUptoCardSaid : Prop := Claim7.holds Tryz.pinned (.plain (OpenSpec.upto shellNumbersSpec)) shellNumbersUptoCard

/-- THE SECOND FORM's CARD OF 'musterlaw30.ShellBlanks'. -/
def shellBlanksUptoCard : Claim7 := { stood := { row := shellBlanksUptoRow, standIns := [], harness := (true, "4b567afae337e977da796315d0a9877c7fe81da86cfafe47679112ab4af1a084"), looks := true }, kinds := [], alts := [], laidByText := true, laidKinds := [.data, .data, .data, .data, .sentinel, .sentinel, .pinned], laidTests := true, laidLooks := .later }
def ShellBlanksUptoCardSaid : Prop := Claim7.holds Tryz.pinned (.plain (OpenSpec.upto shellBlanksSpec)) shellBlanksUptoCard

/-- THE SECOND FORM's CARD OF 'musterlaw30.ShellOrder'. -/
def shellOrderUptoCard : Claim7 := { stood := { row := shellOrderUptoRow, standIns := [], harness := (true, "4b567afae337e977da796315d0a9877c7fe81da86cfafe47679112ab4af1a084"), looks := true }, kinds := [], alts := [], laidByText := true, laidKinds := [.data, .data, .data, .data, .sentinel, .sentinel, .pinned], laidTests := true, laidLooks := .later }
def ShellOrderUptoCardSaid : Prop := Claim7.holds Tryz.pinned (.plain (OpenSpec.upto shellOrderSpec)) shellOrderUptoCard
end Rows
end Go.Proofs.YtagplnihflmelaaGreatDoor
