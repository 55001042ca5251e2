/-
  DERIVED. GIVEN WITH THE SEED: THE CARDS: each row of YtmkmpjkgpnahnaaDoorRows.lean that lists a variable, with what it lists TIED to the program's text (the seventh form; the later family's looks); each row that meets fmt, with fmt's text TOLD by the authors' own Lean function (tested against real Go, not proved from fmt's source: count such statements apart). THE CARD IS WHAT COUNTS. Prove the row's statement (the work); the ties are given (YtmkmpjkgpnahnaaDoorTie.lean); close each card by the builder's one call (the guide's Derived/Test/ToyasCard.lean, 'card_holds'). Laid BY PROGRAM, IN A SANDBOX (cutbox-door.mjs). By AI agents, Wed Nov 11 2026. No macro, syntax, notation, axiom, sorry.
-/
import Derived.Test.YtmkmpjkgpnahnaaDoorRows
import GoSem.ClaimSeven
namespace Go.Proofs.YtmkmpjkgpnahnaaDoor
namespace Rows

/-- THE TIED CARD OF 'foolscaplaw29.PlainPairs'. -/
def plainPairsCard : Claim7 := { stood := { row := plainPairsRow, standIns := [], harness := (true, "11b4389f425d8c3a0cf3d961a2df7736c82533915bbdfb8344650619b1234c5e"), looks := false }, kinds := [], alts := [], laidByText := true, laidKinds := [.data, .pinned], laidTests := true, laidLooks := .later }
def PlainPairsCardSaid : Prop := Claim7.holds Tryd.pinned (.plain (OpenSpec.ofChange plainPairsSpec)) plainPairsCard

/-- THE TIED CARD OF 'foolscaplaw29.PlainMeets'. -/
def plainMeetsCard : Claim7 := { stood := { row := plainMeetsRow, standIns := [], harness := (true, "11b4389f425d8c3a0cf3d961a2df7736c82533915bbdfb8344650619b1234c5e"), looks := false }, kinds := [], alts := [], laidByText := true, laidKinds := [.data, .pinned], laidTests := true, laidLooks := .later }
def PlainMeetsCardSaid : Prop := Claim7.holds Tryd.pinned (.plain (OpenSpec.ofChange plainMeetsSpec)) plainMeetsCard

/-- THE TIED CARD OF 'foolscaplaw29.PlainBack'. -/
def plainBackCard : Claim7 := { stood := { row := plainBackRow, standIns := [], harness := (true, "11b4389f425d8c3a0cf3d961a2df7736c82533915bbdfb8344650619b1234c5e"), looks := false }, kinds := [], alts := [], laidByText := true, laidKinds := [.data, .pinned], laidTests := true, laidLooks := .later }
def PlainBackCardSaid : Prop := Claim7.holds Tryd.pinned (.plain (OpenSpec.ofChange plainBackSpec)) plainBackCard

/-- THE TIED CARD OF 'foolscaplaw29.PlainRaw'. -/
def plainRawCard : Claim7 := { stood := { row := plainRawRow, standIns := [], harness := (true, "11b4389f425d8c3a0cf3d961a2df7736c82533915bbdfb8344650619b1234c5e"), looks := false }, kinds := [], alts := [], laidByText := true, laidKinds := [.data, .pinned], laidTests := true, laidLooks := .later }
def PlainRawCardSaid : Prop := Claim7.holds Tryd.pinned (.plain (OpenSpec.ofChange plainRawSpec)) plainRawCard

/-- THE TIED CARD OF 'foolscaplaw29.PlainRuns'. -/
def plainRunsCard : Claim7 := { stood := { row := plainRunsRow, standIns := [], harness := (true, "11b4389f425d8c3a0cf3d961a2df7736c82533915bbdfb8344650619b1234c5e"), looks := false }, kinds := [], alts := [], laidByText := true, laidKinds := [.data, .pinned], laidTests := true, laidLooks := .later }
def PlainRunsCardSaid : Prop := Claim7.holds Tryd.pinned (.plain (OpenSpec.ofChange plainRunsSpec)) plainRunsCard

/-- THE SECOND FORM's CARD OF 'foolscaplaw29.PlainPairs'. -/
def plainPairsUptoCard : Claim7 := { stood := { row := plainPairsUptoRow, standIns := [], harness := (true, "11b4389f425d8c3a0cf3d961a2df7736c82533915bbdfb8344650619b1234c5e"), looks := false }, kinds := [], alts := [], laidByText := true, laidKinds := [.data, .pinned], laidTests := true, laidLooks := .later }
def PlainPairsUptoCardSaid : Prop := Claim7.holds Tryd.pinned (.plain (OpenSpec.upto plainPairsSpec)) plainPairsUptoCard

/-- THE SECOND FORM's CARD OF 'foolscaplaw29.PlainMeets'. -/
def plainMeetsUptoCard : Claim7 := { stood := { row := plainMeetsUptoRow, standIns := [], harness := (true, "11b4389f425d8c3a0cf3d961a2df7736c82533915bbdfb8344650619b1234c5e"), looks := false }, kinds := [], alts := [], laidByText := true, laidKinds := [.data, .pinned], laidTests := true, laidLooks := .later }
def PlainMeetsUptoCardSaid : Prop := Claim7.holds Tryd.pinned (.plain (OpenSpec.upto plainMeetsSpec)) plainMeetsUptoCard

/-- THE SECOND FORM's CARD OF 'foolscaplaw29.PlainBack'. -/
def plainBackUptoCard : Claim7 := { stood := { row := plainBackUptoRow, standIns := [], harness := (true, "11b4389f425d8c3a0cf3d961a2df7736c82533915bbdfb8344650619b1234c5e"), looks := false }, kinds := [], alts := [], laidByText := true, laidKinds := [.data, .pinned], laidTests := true, laidLooks := .later }
def PlainBackUptoCardSaid : Prop := Claim7.holds Tryd.pinned (.plain (OpenSpec.upto plainBackSpec)) plainBackUptoCard

/-- THE SECOND FORM's CARD OF 'foolscaplaw29.PlainRaw'. -/
def plainRawUptoCard : Claim7 := { stood := { row := plainRawUptoRow, standIns := [], harness := (true, "11b4389f425d8c3a0cf3d961a2df7736c82533915bbdfb8344650619b1234c5e"), looks := false }, kinds := [], alts := [], laidByText := true, laidKinds := [.data, .pinned], laidTests := true, laidLooks := .later }
def PlainRawUptoCardSaid : Prop := Claim7.holds Tryd.pinned (.plain (OpenSpec.upto plainRawSpec)) plainRawUptoCard

/-- THE SECOND FORM's CARD OF 'foolscaplaw29.PlainRuns'. -/
def plainRunsUptoCard : Claim7 := { stood := { row := plainRunsUptoRow, standIns := [], harness := (true, "11b4389f425d8c3a0cf3d961a2df7736c82533915bbdfb8344650619b1234c5e"), looks := false }, kinds := [], alts := [], laidByText := true, laidKinds := [.data, .pinned], laidTests := true, laidLooks := .later }
def PlainRunsUptoCardSaid : Prop := Claim7.holds Tryd.pinned (.plain (OpenSpec.upto plainRunsSpec)) plainRunsUptoCard
end Rows
end Go.Proofs.YtmkmpjkgpnahnaaDoor
