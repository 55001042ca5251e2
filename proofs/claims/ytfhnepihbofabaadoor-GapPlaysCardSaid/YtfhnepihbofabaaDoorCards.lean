/-
  DERIVED. GIVEN WITH THE SEED: THE CARDS: each row of YtfhnepihbofabaaDoorRows.lean that lists a variable, with what it lists TIED to the program's text (the seventh form; the later family's looks); each row that meets fmt, with fmt's text TOLD by the authors' own Lean function (tested against real Go, not proved from fmt's source: count such statements apart). THE CARD IS WHAT COUNTS. Prove the row's statement (the work); the ties are given (YtfhnepihbofabaaDoorTie.lean); close each card by the builder's one call (the guide's Derived/Test/ToyasCard.lean, 'card_holds'). Laid BY PROGRAM, IN A SANDBOX (cutbox-door.mjs). By AI agents, Wed Nov 11 2026. No macro, syntax, notation, axiom, sorry.
-/
import Derived.Test.YtfhnepihbofabaaDoorRows
import GoSem.ClaimSeven
namespace Go.Proofs.YtfhnepihbofabaaDoor
namespace Rows

/-- THE TIED CARD OF 'foolscaplaw02.GapPlaces'. -/
def gapPlacesCard : Claim7 := { stood := { row := gapPlacesRow, standIns := [], harness := (true, "a6277117b22c2dbf1dc449ef095fd06468750d1cf26424bf7a18bc3c0a7edcb6"), looks := false }, kinds := [], alts := [], laidByText := true, laidKinds := [.data, .pinned], laidTests := true, laidLooks := .later }
def GapPlacesCardSaid : Prop := Claim7.holds Tryd.pinned (.plain (OpenSpec.ofChange gapPlacesSpec)) gapPlacesCard

/-- THE TIED CARD OF 'foolscaplaw02.GapBack'. -/
def gapBackCard : Claim7 := { stood := { row := gapBackRow, standIns := [], harness := (true, "a6277117b22c2dbf1dc449ef095fd06468750d1cf26424bf7a18bc3c0a7edcb6"), looks := false }, kinds := [], alts := [], laidByText := true, laidKinds := [.data, .pinned], laidTests := true, laidLooks := .later }
def GapBackCardSaid : Prop := Claim7.holds Tryd.pinned (.plain (OpenSpec.ofChange gapBackSpec)) gapBackCard

/-- THE TIED CARD OF 'foolscaplaw02.GapSlices'. -/
def gapSlicesCard : Claim7 := { stood := { row := gapSlicesRow, standIns := [], harness := (true, "a6277117b22c2dbf1dc449ef095fd06468750d1cf26424bf7a18bc3c0a7edcb6"), looks := false }, kinds := [], alts := [], laidByText := true, laidKinds := [.data, .pinned], laidTests := true, laidLooks := .later }
def GapSlicesCardSaid : Prop := Claim7.holds Tryd.pinned (.plain (OpenSpec.ofChange gapSlicesSpec)) gapSlicesCard

/-- THE TIED CARD OF 'foolscaplaw02.GapSame'. -/
def gapSameCard : Claim7 := { stood := { row := gapSameRow, standIns := [], harness := (true, "a6277117b22c2dbf1dc449ef095fd06468750d1cf26424bf7a18bc3c0a7edcb6"), looks := false }, kinds := [], alts := [], laidByText := true, laidKinds := [.data, .pinned], laidTests := true, laidLooks := .later }
def GapSameCardSaid : Prop := Claim7.holds Tryd.pinned (.plain (OpenSpec.ofChange gapSameSpec)) gapSameCard

/-- THE TIED CARD OF 'foolscaplaw02.GapPlays'. -/
def gapPlaysCard : Claim7 := { stood := { row := gapPlaysRow, standIns := [], harness := (true, "a6277117b22c2dbf1dc449ef095fd06468750d1cf26424bf7a18bc3c0a7edcb6"), looks := false }, kinds := [], alts := [], laidByText := true, laidKinds := [.data, .pinned], laidTests := true, laidLooks := .later }
def GapPlaysCardSaid : Prop := Claim7.holds Tryd.pinned (.plain (OpenSpec.ofChange gapPlaysSpec)) gapPlaysCard

/-- THE SECOND FORM's CARD OF 'foolscaplaw02.GapPlaces'. -/
def gapPlacesUptoCard : Claim7 := { stood := { row := gapPlacesUptoRow, standIns := [], harness := (true, "a6277117b22c2dbf1dc449ef095fd06468750d1cf26424bf7a18bc3c0a7edcb6"), looks := false }, kinds := [], alts := [], laidByText := true, laidKinds := [.data, .pinned], laidTests := true, laidLooks := .later }
def GapPlacesUptoCardSaid : Prop := Claim7.holds Tryd.pinned (.plain (OpenSpec.upto gapPlacesSpec)) gapPlacesUptoCard

/-- THE SECOND FORM's CARD OF 'foolscaplaw02.GapBack'. -/
def gapBackUptoCard : Claim7 := { stood := { row := gapBackUptoRow, standIns := [], harness := (true, "a6277117b22c2dbf1dc449ef095fd06468750d1cf26424bf7a18bc3c0a7edcb6"), looks := false }, kinds := [], alts := [], laidByText := true, laidKinds := [.data, .pinned], laidTests := true, laidLooks := .later }
def GapBackUptoCardSaid : Prop := Claim7.holds Tryd.pinned (.plain (OpenSpec.upto gapBackSpec)) gapBackUptoCard

/-- THE SECOND FORM's CARD OF 'foolscaplaw02.GapSlices'. -/
def gapSlicesUptoCard : Claim7 := { stood := { row := gapSlicesUptoRow, standIns := [], harness := (true, "a6277117b22c2dbf1dc449ef095fd06468750d1cf26424bf7a18bc3c0a7edcb6"), looks := false }, kinds := [], alts := [], laidByText := true, laidKinds := [.data, .pinned], laidTests := true, laidLooks := .later }
def GapSlicesUptoCardSaid : Prop := Claim7.holds Tryd.pinned (.plain (OpenSpec.upto gapSlicesSpec)) gapSlicesUptoCard

/-- THE SECOND FORM's CARD OF 'foolscaplaw02.GapSame'. -/
def gapSameUptoCard : Claim7 := { stood := { row := gapSameUptoRow, standIns := [], harness := (true, "a6277117b22c2dbf1dc449ef095fd06468750d1cf26424bf7a18bc3c0a7edcb6"), looks := false }, kinds := [], alts := [], laidByText := true, laidKinds := [.data, .pinned], laidTests := true, laidLooks := .later }
def GapSameUptoCardSaid : Prop := Claim7.holds Tryd.pinned (.plain (OpenSpec.upto gapSameSpec)) gapSameUptoCard

/-- THE SECOND FORM's CARD OF 'foolscaplaw02.GapPlays'. -/
def gapPlaysUptoCard : Claim7 := { stood := { row := gapPlaysUptoRow, standIns := [], harness := (true, "a6277117b22c2dbf1dc449ef095fd06468750d1cf26424bf7a18bc3c0a7edcb6"), looks := false }, kinds := [], alts := [], laidByText := true, laidKinds := [.data, .pinned], laidTests := true, laidLooks := .later }
def GapPlaysUptoCardSaid : Prop := Claim7.holds Tryd.pinned (.plain (OpenSpec.upto gapPlaysSpec)) gapPlaysUptoCard
end Rows
end Go.Proofs.YtfhnepihbofabaaDoor
