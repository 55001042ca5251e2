/-
  DERIVED. GIVEN WITH THE SEED: THE CARDS: each row of YtabhfloclcmjnaaDoorRows.lean that lists a variable, with what it lists TIED to the program's text (the seventh form; the later family's looks); each row that meets fmt, with fmt's text TOLD by the authors' own Lean function (tested against real Go, not proved from fmt's source: count such statements apart). THE CARD IS WHAT COUNTS. Prove the row's statement (the work); the ties are given (YtabhfloclcmjnaaDoorTie.lean); close each card by the builder's one call (the guide's Derived/Test/ToyasCard.lean, 'card_holds'). Laid BY PROGRAM, IN A SANDBOX (cutbox-door.mjs). By AI agents, Wed Nov 11 2026. No macro, syntax, notation, axiom, sorry.
-/
import Derived.Test.YtabhfloclcmjnaaDoorRows
import GoSem.ClaimSeven
namespace Go.Proofs.YtabhfloclcmjnaaDoor
namespace Rows

/-- THE TIED CARD OF 'foolscaplaw33.FindAll'. -/
def findAllCard : Claim7 := { stood := { row := findAllRow, standIns := [], harness := (true, "b3ad6f2df59640b573246b5448fad435c53dc67c46c4e6cc0345b481f5009d2e"), looks := false }, kinds := [], alts := [], laidByText := true, laidKinds := [.data, .pinned], laidTests := true, laidLooks := .later }
def FindAllCardSaid : Prop := Claim7.holds Tryd.pinned (.plain (OpenSpec.ofChange findAllSpec)) findAllCard

/-- THE TIED CARD OF 'foolscaplaw33.FindMisses'. -/
def findMissesCard : Claim7 := { stood := { row := findMissesRow, standIns := [], harness := (true, "b3ad6f2df59640b573246b5448fad435c53dc67c46c4e6cc0345b481f5009d2e"), looks := false }, kinds := [], alts := [], laidByText := true, laidKinds := [.data, .pinned], laidTests := true, laidLooks := .later }
def FindMissesCardSaid : Prop := Claim7.holds Tryd.pinned (.plain (OpenSpec.ofChange findMissesSpec)) findMissesCard

/-- THE TIED CARD OF 'foolscaplaw33.FindNext'. -/
def findNextCard : Claim7 := { stood := { row := findNextRow, standIns := [], harness := (true, "b3ad6f2df59640b573246b5448fad435c53dc67c46c4e6cc0345b481f5009d2e"), looks := false }, kinds := [], alts := [], laidByText := true, laidKinds := [.data, .pinned], laidTests := true, laidLooks := .later }
def FindNextCardSaid : Prop := Claim7.holds Tryd.pinned (.plain (OpenSpec.ofChange findNextSpec)) findNextCard

/-- THE TIED CARD OF 'foolscaplaw32.DiffForm'. -/
def diffFormCard : Claim7 := { stood := { row := diffFormRow, standIns := [], harness := (true, "b3ad6f2df59640b573246b5448fad435c53dc67c46c4e6cc0345b481f5009d2e"), looks := false }, kinds := [], alts := [], laidByText := true, laidKinds := [.data, .pinned], laidTests := true, laidLooks := .later }
def DiffFormCardSaid : Prop := Claim7.holds Tryd.pinned (.plain (OpenSpec.ofChange diffFormSpec)) diffFormCard

/-- THE TIED CARD OF 'foolscaplaw32.DiffDoes'. -/
def diffDoesCard : Claim7 := { stood := { row := diffDoesRow, standIns := [], harness := (true, "b3ad6f2df59640b573246b5448fad435c53dc67c46c4e6cc0345b481f5009d2e"), looks := false }, kinds := [], alts := [], laidByText := true, laidKinds := [.data, .pinned], laidTests := true, laidLooks := .later }
def DiffDoesCardSaid : Prop := Claim7.holds Tryd.pinned (.plain (OpenSpec.ofChange diffDoesSpec)) diffDoesCard

/-- THE TIED CARD OF 'foolscaplaw33.FindReplaces'. -/
def findReplacesCard : Claim7 := { stood := { row := findReplacesRow, standIns := [], harness := (true, "b3ad6f2df59640b573246b5448fad435c53dc67c46c4e6cc0345b481f5009d2e"), looks := false }, kinds := [], alts := [], laidByText := true, laidKinds := [.data, .pinned], laidTests := true, laidLooks := .later }
def FindReplacesCardSaid : Prop := Claim7.holds Tryd.pinned (.plain (OpenSpec.ofChange findReplacesSpec)) findReplacesCard

/-- THE TIED CARD OF 'foolscaplaw32.DiffTurns'. -/
def diffTurnsCard : Claim7 := { stood := { row := diffTurnsRow, standIns := [], harness := (true, "b3ad6f2df59640b573246b5448fad435c53dc67c46c4e6cc0345b481f5009d2e"), looks := false }, kinds := [], alts := [], laidByText := true, laidKinds := [.data, .pinned], laidTests := true, laidLooks := .later }
def DiffTurnsCardSaid : Prop := Claim7.holds Tryd.pinned (.plain (OpenSpec.ofChange diffTurnsSpec)) diffTurnsCard

/-- THE TIED CARD OF 'foolscaplaw32.DiffApplies'. -/
def diffAppliesCard : Claim7 := { stood := { row := diffAppliesRow, standIns := [], harness := (true, "b3ad6f2df59640b573246b5448fad435c53dc67c46c4e6cc0345b481f5009d2e"), looks := false }, kinds := [], alts := [], laidByText := true, laidKinds := [.data, .pinned], laidTests := true, laidLooks := .later }
def DiffAppliesCardSaid : Prop := Claim7.holds Tryd.pinned (.plain (OpenSpec.ofChange diffAppliesSpec)) diffAppliesCard

/-- THE SECOND FORM's CARD OF 'foolscaplaw33.FindAll'. -/
def findAllUptoCard : Claim7 := { stood := { row := findAllUptoRow, standIns := [], harness := (true, "b3ad6f2df59640b573246b5448fad435c53dc67c46c4e6cc0345b481f5009d2e"), looks := false }, kinds := [], alts := [], laidByText := true, laidKinds := [.data, .pinned], laidTests := true, laidLooks := .later }
def FindAllUptoCardSaid : Prop := Claim7.holds Tryd.pinned (.plain (OpenSpec.upto findAllSpec)) findAllUptoCard

/-- THE SECOND FORM's CARD OF 'foolscaplaw33.FindMisses'. -/
def findMissesUptoCard : Claim7 := { stood := { row := findMissesUptoRow, standIns := [], harness := (true, "b3ad6f2df59640b573246b5448fad435c53dc67c46c4e6cc0345b481f5009d2e"), looks := false }, kinds := [], alts := [], laidByText := true, laidKinds := [.data, .pinned], laidTests := true, laidLooks := .later }
def FindMissesUptoCardSaid : Prop := Claim7.holds Tryd.pinned (.plain (OpenSpec.upto findMissesSpec)) findMissesUptoCard

/-- THE SECOND FORM's CARD OF 'foolscaplaw33.FindNext'. -/
def findNextUptoCard : Claim7 := { stood := { row := findNextUptoRow, standIns := [], harness := (true, "b3ad6f2df59640b573246b5448fad435c53dc67c46c4e6cc0345b481f5009d2e"), looks := false }, kinds := [], alts := [], laidByText := true, laidKinds := [.data, .pinned], laidTests := true, laidLooks := .later }
def FindNextUptoCardSaid : Prop := Claim7.holds Tryd.pinned (.plain (OpenSpec.upto findNextSpec)) findNextUptoCard

/-- THE SECOND FORM's CARD OF 'foolscaplaw32.DiffForm'. -/
def diffFormUptoCard : Claim7 := { stood := { row := diffFormUptoRow, standIns := [], harness := (true, "b3ad6f2df59640b573246b5448fad435c53dc67c46c4e6cc0345b481f5009d2e"), looks := false }, kinds := [], alts := [], laidByText := true, laidKinds := [.data, .pinned], laidTests := true, laidLooks := .later }
def DiffFormUptoCardSaid : Prop := Claim7.holds Tryd.pinned (.plain (OpenSpec.upto diffFormSpec)) diffFormUptoCard

/-- THE SECOND FORM's CARD OF 'foolscaplaw32.DiffDoes'. -/
def diffDoesUptoCard : Claim7 := { stood := { row := diffDoesUptoRow, standIns := [], harness := (true, "b3ad6f2df59640b573246b5448fad435c53dc67c46c4e6cc0345b481f5009d2e"), looks := false }, kinds := [], alts := [], laidByText := true, laidKinds := [.data, .pinned], laidTests := true, laidLooks := .later }
def DiffDoesUptoCardSaid : Prop := Claim7.holds Tryd.pinned (.plain (OpenSpec.upto diffDoesSpec)) diffDoesUptoCard

/-- THE SECOND FORM's CARD OF 'foolscaplaw33.FindReplaces'. -/
def findReplacesUptoCard : Claim7 := { stood := { row := findReplacesUptoRow, standIns := [], harness := (true, "b3ad6f2df59640b573246b5448fad435c53dc67c46c4e6cc0345b481f5009d2e"), looks := false }, kinds := [], alts := [], laidByText := true, laidKinds := [.data, .pinned], laidTests := true, laidLooks := .later }
def FindReplacesUptoCardSaid : Prop := Claim7.holds Tryd.pinned (.plain (OpenSpec.upto findReplacesSpec)) findReplacesUptoCard

/-- THE SECOND FORM's CARD OF 'foolscaplaw32.DiffTurns'. -/
def diffTurnsUptoCard : Claim7 := { stood := { row := diffTurnsUptoRow, standIns := [], harness := (true, "b3ad6f2df59640b573246b5448fad435c53dc67c46c4e6cc0345b481f5009d2e"), looks := false }, kinds := [], alts := [], laidByText := true, laidKinds := [.data, .pinned], laidTests := true, laidLooks := .later }
def DiffTurnsUptoCardSaid : Prop := Claim7.holds Tryd.pinned (.plain (OpenSpec.upto diffTurnsSpec)) diffTurnsUptoCard

/-- THE SECOND FORM's CARD OF 'foolscaplaw32.DiffApplies'. -/
def diffAppliesUptoCard : Claim7 := { stood := { row := diffAppliesUptoRow, standIns := [], harness := (true, "b3ad6f2df59640b573246b5448fad435c53dc67c46c4e6cc0345b481f5009d2e"), looks := false }, kinds := [], alts := [], laidByText := true, laidKinds := [.data, .pinned], laidTests := true, laidLooks := .later }
def DiffAppliesUptoCardSaid : Prop := Claim7.holds Tryd.pinned (.plain (OpenSpec.upto diffAppliesSpec)) diffAppliesUptoCard
end Rows
end Go.Proofs.YtabhfloclcmjnaaDoor
