/-
  DERIVED. GIVEN WITH THE SEED: THE CARDS: each row of YtifdhiioaomdnaaDoorRows.lean that lists a variable, with what it lists TIED to the program's text (the seventh form; the later family's looks); each row that meets fmt, with fmt's text TOLD by the authors' own Lean function (tested against real Go, not proved from fmt's source: count such statements apart). THE CARD IS WHAT COUNTS. Prove the row's statement (the work); the ties are given (YtifdhiioaomdnaaDoorTie.lean); close each card by the builder's one call (the guide's Derived/Test/ToyasCard.lean, 'card_holds'). Laid BY PROGRAM, IN A SANDBOX (cutbox-door.mjs). By AI agents, Wed Nov 11 2026. No macro, syntax, notation, axiom, sorry.
-/
import Derived.Test.YtifdhiioaomdnaaDoorRows
import GoSem.ClaimSeven
namespace Go.Proofs.YtifdhiioaomdnaaDoor
namespace Rows

/-- THE TIED CARD OF 'musterlaw19.ArrayTexts'. -/
def arrayTextsCard : Claim7 := { stood := { row := arrayTextsRow, standIns := [], harness := (true, "d1c36ab48a634080b2b9bcf3986f4f97c6494b87c9b48003bb3c4059625fdf89"), looks := true }, kinds := [], alts := [], laidByText := true, laidKinds := [.data, .data, .data, .data, .sentinel, .sentinel, .pinned], laidTests := true, laidLooks := .later }
def ArrayTextsCardSaid : Prop := Claim7.holds Tryd.pinned (.plain (OpenSpec.ofChange arrayTextsSpec)) arrayTextsCard

/-- THE TIED CARD OF 'musterlaw19.ArrayBack'. -/
def arrayBackCard : Claim7 := { stood := { row := arrayBackRow, standIns := [], harness := (true, "d1c36ab48a634080b2b9bcf3986f4f97c6494b87c9b48003bb3c4059625fdf89"), looks := true }, kinds := [], alts := [], laidByText := true, laidKinds := [.data, .data, .data, .data, .sentinel, .sentinel, .pinned], laidTests := true, laidLooks := .later }
def ArrayBackCardSaid : Prop := Claim7.holds Tryd.pinned (.plain (OpenSpec.ofChange arrayBackSpec)) arrayBackCard

/-- THE TIED CARD OF 'musterlaw19.ArrayIds'. -/
def arrayIdsCard : Claim7 := { stood := { row := arrayIdsRow, standIns := [], harness := (true, "d1c36ab48a634080b2b9bcf3986f4f97c6494b87c9b48003bb3c4059625fdf89"), looks := true }, kinds := [], alts := [], laidByText := true, laidKinds := [.data, .data, .data, .data, .sentinel, .sentinel, .pinned], laidTests := true, laidLooks := .later }
def ArrayIdsCardSaid : Prop := Claim7.holds Tryd.pinned (.plain (OpenSpec.ofChange arrayIdsSpec)) arrayIdsCard

/-- THE SECOND FORM's CARD OF 'musterlaw19.ArrayTexts'. -/
def arrayTextsUptoCard : Claim7 := { stood := { row := arrayTextsUptoRow, standIns := [], harness := (true, "d1c36ab48a634080b2b9bcf3986f4f97c6494b87c9b48003bb3c4059625fdf89"), looks := true }, kinds := [], alts := [], laidByText := true, laidKinds := [.data, .data, .data, .data, .sentinel, .sentinel, .pinned], laidTests := true, laidLooks := .later }
def ArrayTextsUptoCardSaid : Prop := Claim7.holds Tryd.pinned (.plain (OpenSpec.upto arrayTextsSpec)) arrayTextsUptoCard

/-- THE SECOND FORM's CARD OF 'musterlaw19.ArrayBack'. -/
def arrayBackUptoCard : Claim7 := { stood := { row := arrayBackUptoRow, standIns := [], harness := (true, "d1c36ab48a634080b2b9bcf3986f4f97c6494b87c9b48003bb3c4059625fdf89"), looks := true }, kinds := [], alts := [], laidByText := true, laidKinds := [.data, .data, .data, .data, .sentinel, .sentinel, .pinned], laidTests := true, laidLooks := .later }
def ArrayBackUptoCardSaid : Prop := Claim7.holds Tryd.pinned (.plain (OpenSpec.upto arrayBackSpec)) arrayBackUptoCard

/-- THE SECOND FORM's CARD OF 'musterlaw19.ArrayIds'. -/
def arrayIdsUptoCard : Claim7 := { stood := { row := arrayIdsUptoRow, standIns := [], harness := (true, "d1c36ab48a634080b2b9bcf3986f4f97c6494b87c9b48003bb3c4059625fdf89"), looks := true }, kinds := [], alts := [], laidByText := true, laidKinds := [.data, .data, .data, .data, .sentinel, .sentinel, .pinned], laidTests := true, laidLooks := .later }
def ArrayIdsUptoCardSaid : Prop := Claim7.holds Tryd.pinned (.plain (OpenSpec.upto arrayIdsSpec)) arrayIdsUptoCard
end Rows
end Go.Proofs.YtifdhiioaomdnaaDoor
