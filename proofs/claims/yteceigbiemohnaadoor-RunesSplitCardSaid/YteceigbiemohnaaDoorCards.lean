/-
  DERIVED. GIVEN WITH THE SEED: THE CARDS: each row of YteceigbiemohnaaDoorRows.lean that lists a variable, with what it lists TIED to the program's text (the seventh form; the later family's looks); each row that meets fmt, with fmt's text TOLD by the authors' own Lean function (tested against real Go, not proved from fmt's source: count such statements apart). THE CARD IS WHAT COUNTS. Prove the row's statement (the work); the ties are given (YteceigbiemohnaaDoorTie.lean); close each card by the builder's one call (the guide's Derived/Test/ToyasCard.lean, 'card_holds'). Laid BY PROGRAM, IN A SANDBOX (cutbox-door.mjs). By AI agents, Wed Nov 11 2026. No macro, syntax, notation, axiom, sorry.
-/
import Derived.Test.YteceigbiemohnaaDoorRows
import GoSem.ClaimSeven
namespace Go.Proofs.YteceigbiemohnaaDoor
namespace Rows

/-- THE TIED CARD OF 'foolscaplaw01.RunesCut'. -/
def runesCutCard : Claim7 := { stood := { row := runesCutRow, standIns := [], harness := (true, "0b8170b6fceea8a6b249d28562edc8b997d6519710180b624100d7dd483fbda0"), looks := false }, kinds := [], alts := [], laidByText := true, laidKinds := [.data, .pinned], laidTests := true, laidLooks := .later }
def RunesCutCardSaid : Prop := Claim7.holds Tryd.pinned (.plain (OpenSpec.ofChange runesCutSpec)) runesCutCard

/-- THE TIED CARD OF 'foolscaplaw01.RunesDigest'. -/
def runesDigestCard : Claim7 := { stood := { row := runesDigestRow, standIns := [], harness := (true, "0b8170b6fceea8a6b249d28562edc8b997d6519710180b624100d7dd483fbda0"), looks := false }, kinds := [], alts := [], laidByText := true, laidKinds := [.data, .pinned], laidTests := true, laidLooks := .later }
def RunesDigestCardSaid : Prop := Claim7.holds Tryd.pinned (.plain (OpenSpec.ofChange runesDigestSpec)) runesDigestCard

/-- THE TIED CARD OF 'foolscaplaw01.RunesSplit'. -/
def runesSplitCard : Claim7 := { stood := { row := runesSplitRow, standIns := [], harness := (true, "0b8170b6fceea8a6b249d28562edc8b997d6519710180b624100d7dd483fbda0"), looks := false }, kinds := [], alts := [], laidByText := true, laidKinds := [.data, .pinned], laidTests := true, laidLooks := .later }
def RunesSplitCardSaid : Prop := Claim7.holds Tryd.pinned (.plain (OpenSpec.ofChange runesSplitSpec)) runesSplitCard

/-- THE TIED CARD OF 'foolscaplaw01.RunesJoin'. -/
def runesJoinCard : Claim7 := { stood := { row := runesJoinRow, standIns := [], harness := (true, "0b8170b6fceea8a6b249d28562edc8b997d6519710180b624100d7dd483fbda0"), looks := false }, kinds := [], alts := [], laidByText := true, laidKinds := [.data, .pinned], laidTests := true, laidLooks := .later }
def RunesJoinCardSaid : Prop := Claim7.holds Tryd.pinned (.plain (OpenSpec.ofChange runesJoinSpec)) runesJoinCard

/-- THE TIED CARD OF 'foolscaplaw01.RunesBack'. -/
def runesBackCard : Claim7 := { stood := { row := runesBackRow, standIns := [], harness := (true, "0b8170b6fceea8a6b249d28562edc8b997d6519710180b624100d7dd483fbda0"), looks := false }, kinds := [], alts := [], laidByText := true, laidKinds := [.data, .pinned], laidTests := true, laidLooks := .later }
def RunesBackCardSaid : Prop := Claim7.holds Tryd.pinned (.plain (OpenSpec.ofChange runesBackSpec)) runesBackCard

/-- THE TIED CARD OF 'foolscaplaw01.RunesOne'. -/
def runesOneCard : Claim7 := { stood := { row := runesOneRow, standIns := [], harness := (true, "0b8170b6fceea8a6b249d28562edc8b997d6519710180b624100d7dd483fbda0"), looks := false }, kinds := [], alts := [], laidByText := true, laidKinds := [.data, .pinned], laidTests := true, laidLooks := .later }
def RunesOneCardSaid : Prop := Claim7.holds Tryd.pinned (.plain (OpenSpec.ofChange runesOneSpec)) runesOneCard

/-- THE SECOND FORM's CARD OF 'foolscaplaw01.RunesCut'. -/
def runesCutUptoCard : Claim7 := { stood := { row := runesCutUptoRow, standIns := [], harness := (true, "0b8170b6fceea8a6b249d28562edc8b997d6519710180b624100d7dd483fbda0"), looks := false }, kinds := [], alts := [], laidByText := true, laidKinds := [.data, .pinned], laidTests := true, laidLooks := .later }
def RunesCutUptoCardSaid : Prop := Claim7.holds Tryd.pinned (.plain (OpenSpec.upto runesCutSpec)) runesCutUptoCard

/-- THE SECOND FORM's CARD OF 'foolscaplaw01.RunesDigest'. -/
def runesDigestUptoCard : Claim7 := { stood := { row := runesDigestUptoRow, standIns := [], harness := (true, "0b8170b6fceea8a6b249d28562edc8b997d6519710180b624100d7dd483fbda0"), looks := false }, kinds := [], alts := [], laidByText := true, laidKinds := [.data, .pinned], laidTests := true, laidLooks := .later }
def RunesDigestUptoCardSaid : Prop := Claim7.holds Tryd.pinned (.plain (OpenSpec.upto runesDigestSpec)) runesDigestUptoCard

/-- THE SECOND FORM's CARD OF 'foolscaplaw01.RunesSplit'. -/
def runesSplitUptoCard : Claim7 := { stood := { row := runesSplitUptoRow, standIns := [], harness := (true, "0b8170b6fceea8a6b249d28562edc8b997d6519710180b624100d7dd483fbda0"), looks := false }, kinds := [], alts := [], laidByText := true, laidKinds := [.data, .pinned], laidTests := true, laidLooks := .later }
def RunesSplitUptoCardSaid : Prop := Claim7.holds Tryd.pinned (.plain (OpenSpec.upto runesSplitSpec)) runesSplitUptoCard

/-- THE SECOND FORM's CARD OF 'foolscaplaw01.RunesJoin'. -/
def runesJoinUptoCard : Claim7 := { stood := { row := runesJoinUptoRow, standIns := [], harness := (true, "0b8170b6fceea8a6b249d28562edc8b997d6519710180b624100d7dd483fbda0"), looks := false }, kinds := [], alts := [], laidByText := true, laidKinds := [.data, .pinned], laidTests := true, laidLooks := .later }
def RunesJoinUptoCardSaid : Prop := Claim7.holds Tryd.pinned (.plain (OpenSpec.upto runesJoinSpec)) runesJoinUptoCard

/-- THE SECOND FORM's CARD OF 'foolscaplaw01.RunesBack'. -/
def runesBackUptoCard : Claim7 := { stood := { row := runesBackUptoRow, standIns := [], harness := (true, "0b8170b6fceea8a6b249d28562edc8b997d6519710180b624100d7dd483fbda0"), looks := false }, kinds := [], alts := [], laidByText := true, laidKinds := [.data, .pinned], laidTests := true, laidLooks := .later }
def RunesBackUptoCardSaid : Prop := Claim7.holds Tryd.pinned (.plain (OpenSpec.upto runesBackSpec)) runesBackUptoCard

/-- THE SECOND FORM's CARD OF 'foolscaplaw01.RunesOne'. -/
def runesOneUptoCard : Claim7 := { stood := { row := runesOneUptoRow, standIns := [], harness := (true, "0b8170b6fceea8a6b249d28562edc8b997d6519710180b624100d7dd483fbda0"), looks := false }, kinds := [], alts := [], laidByText := true, laidKinds := [.data, .pinned], laidTests := true, laidLooks := .later }
def RunesOneUptoCardSaid : Prop := Claim7.holds Tryd.pinned (.plain (OpenSpec.upto runesOneSpec)) runesOneUptoCard
end Rows
end Go.Proofs.YteceigbiemohnaaDoor
