/-
  DERIVED. GIVEN WITH THE SEED: THE CARDS: each row of YtcpbpbcgkammlaaDoorRows.lean that lists a variable, with what it lists TIED to the program's text (the seventh form; the later family's looks); each row that meets fmt, with fmt's text TOLD by the authors' own Lean function (tested against real Go, not proved from fmt's source: count such statements apart). THE CARD IS WHAT COUNTS. Prove the row's statement (the work); the ties are given (YtcpbpbcgkammlaaDoorTie.lean); close each card by the builder's one call (the guide's Derived/Test/ToyasCard.lean, 'card_holds'). Laid BY PROGRAM, IN A SANDBOX (cutbox-door.mjs). By AI agents, Wed Nov 11 2026. No macro, syntax, notation, axiom, sorry.
-/
import Derived.Test.YtcpbpbcgkammlaaDoorRows
import GoSem.ClaimSeven
namespace Go.Proofs.YtcpbpbcgkammlaaDoor
namespace Rows

/-- THE TIED CARD OF 'musterlaw10.SetTells'. -/
def setTellsCard : Claim7 := { stood := { row := setTellsRow, standIns := [], harness := (true, "936d748264aa37c1ac90d63f71de199792e80b620a6521f9dc7db68d0ba825b6"), looks := true }, kinds := [], alts := [], laidByText := true, laidKinds := [.data, .data, .data, .data, .sentinel, .sentinel, .pinned], laidTests := true, laidLooks := .later }
def SetTellsCardSaid : Prop := Claim7.holds Tryd.pinned (.plain (OpenSpec.ofChange setTellsSpec)) setTellsCard

/-- THE TIED CARD OF 'musterlaw10.SetFirst'. -/
def setFirstCard : Claim7 := { stood := { row := setFirstRow, standIns := [], harness := (true, "936d748264aa37c1ac90d63f71de199792e80b620a6521f9dc7db68d0ba825b6"), looks := true }, kinds := [], alts := [], laidByText := true, laidKinds := [.data, .data, .data, .data, .sentinel, .sentinel, .pinned], laidTests := true, laidLooks := .later }
def SetFirstCardSaid : Prop := Claim7.holds Tryd.pinned (.plain (OpenSpec.ofChange setFirstSpec)) setFirstCard

/-- THE TIED CARD OF 'musterlaw10.SetTexts'. -/
def setTextsCard : Claim7 := { stood := { row := setTextsRow, standIns := [], harness := (true, "936d748264aa37c1ac90d63f71de199792e80b620a6521f9dc7db68d0ba825b6"), looks := true }, kinds := [], alts := [], laidByText := true, laidKinds := [.data, .data, .data, .data, .sentinel, .sentinel, .pinned], laidTests := true, laidLooks := .later }
def SetTextsCardSaid : Prop := Claim7.holds Tryd.pinned (.plain (OpenSpec.ofChange setTextsSpec)) setTextsCard

/-- THE TIED CARD OF 'musterlaw10.SetBack'. -/
def setBackCard : Claim7 := { stood := { row := setBackRow, standIns := [], harness := (true, "936d748264aa37c1ac90d63f71de199792e80b620a6521f9dc7db68d0ba825b6"), looks := true }, kinds := [], alts := [], laidByText := true, laidKinds := [.data, .data, .data, .data, .sentinel, .sentinel, .pinned], laidTests := true, laidLooks := .later }
def SetBackCardSaid : Prop := Claim7.holds Tryd.pinned (.plain (OpenSpec.ofChange setBackSpec)) setBackCard

/-- THE SECOND FORM's CARD OF 'musterlaw10.SetTells'. -/
def setTellsUptoCard : Claim7 := { stood := { row := setTellsUptoRow, standIns := [], harness := (true, "936d748264aa37c1ac90d63f71de199792e80b620a6521f9dc7db68d0ba825b6"), looks := true }, kinds := [], alts := [], laidByText := true, laidKinds := [.data, .data, .data, .data, .sentinel, .sentinel, .pinned], laidTests := true, laidLooks := .later }
def SetTellsUptoCardSaid : Prop := Claim7.holds Tryd.pinned (.plain (OpenSpec.upto setTellsSpec)) setTellsUptoCard

/-- THE SECOND FORM's CARD OF 'musterlaw10.SetFirst'. -/
def setFirstUptoCard : Claim7 := { stood := { row := setFirstUptoRow, standIns := [], harness := (true, "936d748264aa37c1ac90d63f71de199792e80b620a6521f9dc7db68d0ba825b6"), looks := true }, kinds := [], alts := [], laidByText := true, laidKinds := [.data, .data, .data, .data, .sentinel, .sentinel, .pinned], laidTests := true, laidLooks := .later }
def SetFirstUptoCardSaid : Prop := Claim7.holds Tryd.pinned (.plain (OpenSpec.upto setFirstSpec)) setFirstUptoCard

/-- THE SECOND FORM's CARD OF 'musterlaw10.SetTexts'. -/
def setTextsUptoCard : Claim7 := { stood := { row := setTextsUptoRow, standIns := [], harness := (true, "936d748264aa37c1ac90d63f71de199792e80b620a6521f9dc7db68d0ba825b6"), looks := true }, kinds := [], alts := [], laidByText := true, laidKinds := [.data, .data, .data, .data, .sentinel, .sentinel, .pinned], laidTests := true, laidLooks := .later }
def SetTextsUptoCardSaid : Prop := Claim7.holds Tryd.pinned (.plain (OpenSpec.upto setTextsSpec)) setTextsUptoCard

/-- THE SECOND FORM's CARD OF 'musterlaw10.SetBack'. -/
def setBackUptoCard : Claim7 := { stood := { row := setBackUptoRow, standIns := [], harness := (true, "936d748264aa37c1ac90d63f71de199792e80b620a6521f9dc7db68d0ba825b6"), looks := true }, kinds := [], alts := [], laidByText := true, laidKinds := [.data, .data, .data, .data, .sentinel, .sentinel, .pinned], laidTests := true, laidLooks := .later }
def SetBackUptoCardSaid : Prop := Claim7.holds Tryd.pinned (.plain (OpenSpec.upto setBackSpec)) setBackUptoCard
end Rows
end Go.Proofs.YtcpbpbcgkammlaaDoor
