/-
  NARROWER THAN 'FOR EVERY INPUT', by the rows' own cells (each row's printed sentence says how): GapPlaces: laid · GapBack: laid · GapSlices: laid · GapSame: laid · GapPlays: laid.
  DERIVED. THE GIVEN ROWS OF THIS SEAT. 5 by the template 'for every input the law returns true; each argument reads behind the call as it read before'; 0 by the template 'total and deterministic' (their statements: YtfhnepihbofabaaDoorTotals.lean).
  GIVEN WITH THE SEED: the statements are not yours to turn. If you find one false, say at which input.
  Laid BY PROGRAM, IN A SANDBOX (cutbox-rows.mjs): the forced cells as the released guide's own fill.sh prints them over the translation 6de1929b5e18d4db… (all of the seat's roots in one cut). By AI agents, Wed Nov 11 2026. No macro, syntax, notation, axiom, sorry.
-/
import Derived.Test.YtfhnepihbofabaaDoorChecked
import GoSem.PinnedTables
import GoSem.Claim
import GoSem.ClaimJoined
import GoSem.ClaimMapViews
import Derived.JoinedTies
import Derived.KernelRfl
namespace Go.Proofs.YtfhnepihbofabaaDoor
/- THE CELL 'sum', in the pinned program and in every row, IS THE sha256 OF THE DUMP (.gsa) THAT YtfhnepihbofabaaDoorProg.lean LOADS. Nothing in Lean hashes anything: it is a label: what it is worth is what the hold of that sum in a sandbox is worth. -/
noncomputable def Tryd.pinned : Pinned := { name := "ytfhnepihbofabaadoor", sum := "6de1929b5e18d4db51728ed0ea02a20b41d31e2f6e4c988d8de29b9eff99532e", checked := Tryd.checked }
namespace Rows
def none {H : Type} : Left H := { results := [], args := [] }

/- WHAT THE LISTED PACKAGE-LEVEL VARIABLES READ AS WHEN THE CALL BEGINS. Each datum BY PROGRAM (the guide's laid-datum.mjs) off the statement by which the dump's own 'gosem.cut.vars' lays the variable. In a bare row this is a premise. The card (YtfhnepihbofabaaDoorCards.lean) ties it to the program's text. -/
def laid_unicode_utf8_acceptRanges {H : Type} : DataW H := .agg [.agg [.lit (.int .u8 128), .lit (.int .u8 191)], .agg [.lit (.int .u8 160), .lit (.int .u8 191)], .agg [.lit (.int .u8 128), .lit (.int .u8 159)], .agg [.lit (.int .u8 144), .lit (.int .u8 191)], .agg [.lit (.int .u8 128), .lit (.int .u8 143)], .agg [.lit (.int .u8 0), .lit (.int .u8 0)], .agg [.lit (.int .u8 0), .lit (.int .u8 0)], .agg [.lit (.int .u8 0), .lit (.int .u8 0)], .agg [.lit (.int .u8 0), .lit (.int .u8 0)], .agg [.lit (.int .u8 0), .lit (.int .u8 0)], .agg [.lit (.int .u8 0), .lit (.int .u8 0)], .agg [.lit (.int .u8 0), .lit (.int .u8 0)], .agg [.lit (.int .u8 0), .lit (.int .u8 0)], .agg [.lit (.int .u8 0), .lit (.int .u8 0)], .agg [.lit (.int .u8 0), .lit (.int .u8 0)], .agg [.lit (.int .u8 0), .lit (.int .u8 0)]]
/-- One of Go's own tables, pinned by name: the form's constant. -/
def laid_unicode_utf8_first : DataW Unit := Go.Pinned.utf8First

/-- 'foolscaplaw02.GapPlaces': WHATEVER THE INPUT: true; the input reads as it did. -/
def gapPlacesSpec : ChangeSpec := { name := "gapPlaces", fn := fun _ => fun
  | [d1, d2, d3] => { results := [.lit (.bool true)], args := [d1, d2, d3] }
  | _ => none }
def gapPlacesRow : OpenClaim := { program := "ytfhnepihbofabaadoor", sum := "6de1929b5e18d4db51728ed0ea02a20b41d31e2f6e4c988d8de29b9eff99532e", func := "foolscap/foolscaplaw02.GapPlaces", spec := "gapPlaces", unfollowed := true, recurses := true, named := ["unicode/utf8.first", "unicode/utf8.acceptRanges"], apart := false, laid := [("unicode/utf8.acceptRanges", laid_unicode_utf8_acceptRanges), ("unicode/utf8.first", laid_unicode_utf8_first)] }
def GapPlacesSaid : Prop := gapPlacesRow.holds Tryd.pinned (OpenSpec.ofChange gapPlacesSpec)

/-- ITS FALSE NEIGHBOUR: 'it returns false'. Refute it at one input. -/
def gapPlacesWrong : ChangeSpec := { name := "gapPlaces", fn := fun _ => fun
  | [d1, d2, d3] => { results := [.lit (.bool false)], args := [d1, d2, d3] }
  | _ => none }
def GapPlacesWrongFalsely : Prop := gapPlacesRow.holds Tryd.pinned (OpenSpec.ofChange gapPlacesWrong)

/-- 'foolscaplaw02.GapBack': WHATEVER THE INPUT: true; the input reads as it did. -/
def gapBackSpec : ChangeSpec := { name := "gapBack", fn := fun _ => fun
  | [d1, d2, d3] => { results := [.lit (.bool true)], args := [d1, d2, d3] }
  | _ => none }
def gapBackRow : OpenClaim := { program := "ytfhnepihbofabaadoor", sum := "6de1929b5e18d4db51728ed0ea02a20b41d31e2f6e4c988d8de29b9eff99532e", func := "foolscap/foolscaplaw02.GapBack", spec := "gapBack", unfollowed := true, recurses := true, named := ["unicode/utf8.first", "unicode/utf8.acceptRanges"], apart := false, laid := [("unicode/utf8.acceptRanges", laid_unicode_utf8_acceptRanges), ("unicode/utf8.first", laid_unicode_utf8_first)] }
def GapBackSaid : Prop := gapBackRow.holds Tryd.pinned (OpenSpec.ofChange gapBackSpec)

/-- ITS FALSE NEIGHBOUR: 'it returns false'. Refute it at one input. -/
def gapBackWrong : ChangeSpec := { name := "gapBack", fn := fun _ => fun
  | [d1, d2, d3] => { results := [.lit (.bool false)], args := [d1, d2, d3] }
  | _ => none }
def GapBackWrongFalsely : Prop := gapBackRow.holds Tryd.pinned (OpenSpec.ofChange gapBackWrong)

/-- 'foolscaplaw02.GapSlices': WHATEVER THE INPUT: true; the input reads as it did. -/
def gapSlicesSpec : ChangeSpec := { name := "gapSlices", fn := fun _ => fun
  | [d1, d2, d3] => { results := [.lit (.bool true)], args := [d1, d2, d3] }
  | _ => none }
def gapSlicesRow : OpenClaim := { program := "ytfhnepihbofabaadoor", sum := "6de1929b5e18d4db51728ed0ea02a20b41d31e2f6e4c988d8de29b9eff99532e", func := "foolscap/foolscaplaw02.GapSlices", spec := "gapSlices", unfollowed := true, recurses := true, named := ["unicode/utf8.first", "unicode/utf8.acceptRanges"], apart := false, laid := [("unicode/utf8.acceptRanges", laid_unicode_utf8_acceptRanges), ("unicode/utf8.first", laid_unicode_utf8_first)] }
def GapSlicesSaid : Prop := gapSlicesRow.holds Tryd.pinned (OpenSpec.ofChange gapSlicesSpec)

/-- ITS FALSE NEIGHBOUR: 'it returns false'. Refute it at one input. -/
def gapSlicesWrong : ChangeSpec := { name := "gapSlices", fn := fun _ => fun
  | [d1, d2, d3] => { results := [.lit (.bool false)], args := [d1, d2, d3] }
  | _ => none }
def GapSlicesWrongFalsely : Prop := gapSlicesRow.holds Tryd.pinned (OpenSpec.ofChange gapSlicesWrong)

/-- 'foolscaplaw02.GapSame': WHATEVER THE INPUT: true; the input reads as it did. -/
def gapSameSpec : ChangeSpec := { name := "gapSame", fn := fun _ => fun
  | [d1, d2, d3] => { results := [.lit (.bool true)], args := [d1, d2, d3] }
  | _ => none }
def gapSameRow : OpenClaim := { program := "ytfhnepihbofabaadoor", sum := "6de1929b5e18d4db51728ed0ea02a20b41d31e2f6e4c988d8de29b9eff99532e", func := "foolscap/foolscaplaw02.GapSame", spec := "gapSame", unfollowed := true, recurses := true, named := ["unicode/utf8.first", "unicode/utf8.acceptRanges"], apart := false, laid := [("unicode/utf8.acceptRanges", laid_unicode_utf8_acceptRanges), ("unicode/utf8.first", laid_unicode_utf8_first)] }
def GapSameSaid : Prop := gapSameRow.holds Tryd.pinned (OpenSpec.ofChange gapSameSpec)

/-- ITS FALSE NEIGHBOUR: 'it returns false'. Refute it at one input. -/
def gapSameWrong : ChangeSpec := { name := "gapSame", fn := fun _ => fun
  | [d1, d2, d3] => { results := [.lit (.bool false)], args := [d1, d2, d3] }
  | _ => none }
def GapSameWrongFalsely : Prop := gapSameRow.holds Tryd.pinned (OpenSpec.ofChange gapSameWrong)

/-- 'foolscaplaw02.GapPlays': WHATEVER THE INPUT: true; the input reads as it did. -/
def gapPlaysSpec : ChangeSpec := { name := "gapPlays", fn := fun _ => fun
  | [d1, d2] => { results := [.lit (.bool true)], args := [d1, d2] }
  | _ => none }
def gapPlaysRow : OpenClaim := { program := "ytfhnepihbofabaadoor", sum := "6de1929b5e18d4db51728ed0ea02a20b41d31e2f6e4c988d8de29b9eff99532e", func := "foolscap/foolscaplaw02.GapPlays", spec := "gapPlays", unfollowed := true, recurses := true, named := ["unicode/utf8.first", "unicode/utf8.acceptRanges"], apart := false, laid := [("unicode/utf8.acceptRanges", laid_unicode_utf8_acceptRanges), ("unicode/utf8.first", laid_unicode_utf8_first)] }
def GapPlaysSaid : Prop := gapPlaysRow.holds Tryd.pinned (OpenSpec.ofChange gapPlaysSpec)

/-- ITS FALSE NEIGHBOUR: 'it returns false'. Refute it at one input. -/
def gapPlaysWrong : ChangeSpec := { name := "gapPlays", fn := fun _ => fun
  | [d1, d2] => { results := [.lit (.bool false)], args := [d1, d2] }
  | _ => none }
def GapPlaysWrongFalsely : Prop := gapPlaysRow.holds Tryd.pinned (OpenSpec.ofChange gapPlaysWrong)

/- THE SECOND FORM. 'bulk': how many values and letters a reading holds, each counted each time it is reached (what is shared counts as often as it is met; a slice's spare places count too). A statement '..UptoSaid' is the law's where the arguments, and the package variables that the reading takes, are together of bulk at most 1048576: NARROWER than '..Said'. Prove '..Said' where nothing that the law and all that it calls make is longer than what came in: it says more and counts as full. Else prove '..UptoSaid'. A law counts once. -/
mutual
def uptoBulk {H : Type} : DataW H → Nat
  | .lit (.string bytes) => bytes.length + 1
  | .lit _ => 1
  | .nil => 1
  | .ptr d => uptoBulk d + 1
  | .slice elems spare => uptoBulkAll elems + uptoBulkAll spare + 1
  | .agg parts => uptoBulkAll parts + 1
  | .iface _ d => uptoBulk d + 1
  | .map entries => uptoBulkEntries entries + 1
  | .held _ => 1
def uptoBulkAll {H : Type} : List (DataW H) → Nat
  | [] => 0
  | d :: r => uptoBulk d + uptoBulkAll r
def uptoBulkEntries {H : Type} : List (Lit × DataW H) → Nat
  | [] => 0
  | x :: r => uptoBulkEntry x + uptoBulkEntries r
def uptoBulkEntry {H : Type} : Lit × DataW H → Nat
  | (.string bytes, d) => bytes.length + uptoBulk d + 1
  | (_, d) => uptoBulk d + 1
 end
def uptoSmall : (H : Type) → List (DataW H) → Bool := fun _ ds => decide (uptoBulkAll ds ≤ 1048576)
def OpenSpec.upto (s : _root_.Go.ChangeSpec) : _root_.Go.OpenSpec := { _root_.Go.OpenSpec.ofChange s with cond := some uptoSmall }

/-- 'foolscaplaw02.GapPlaces', WHERE WHAT IT READS IS OF BULK AT MOST 1048576: true; the input reads as it did. -/
def gapPlacesUptoRow : OpenClaim := { program := "ytfhnepihbofabaadoor", sum := "6de1929b5e18d4db51728ed0ea02a20b41d31e2f6e4c988d8de29b9eff99532e", func := "foolscap/foolscaplaw02.GapPlaces", spec := "gapPlaces", unfollowed := true, recurses := true, named := ["unicode/utf8.first", "unicode/utf8.acceptRanges"], apart := false, laid := [("unicode/utf8.acceptRanges", laid_unicode_utf8_acceptRanges), ("unicode/utf8.first", laid_unicode_utf8_first)], narrowed := true }
def GapPlacesUptoSaid : Prop := gapPlacesUptoRow.holds Tryd.pinned (OpenSpec.upto gapPlacesSpec)

/-- 'foolscaplaw02.GapBack', WHERE WHAT IT READS IS OF BULK AT MOST 1048576: true; the input reads as it did. -/
def gapBackUptoRow : OpenClaim := { program := "ytfhnepihbofabaadoor", sum := "6de1929b5e18d4db51728ed0ea02a20b41d31e2f6e4c988d8de29b9eff99532e", func := "foolscap/foolscaplaw02.GapBack", spec := "gapBack", unfollowed := true, recurses := true, named := ["unicode/utf8.first", "unicode/utf8.acceptRanges"], apart := false, laid := [("unicode/utf8.acceptRanges", laid_unicode_utf8_acceptRanges), ("unicode/utf8.first", laid_unicode_utf8_first)], narrowed := true }
def GapBackUptoSaid : Prop := gapBackUptoRow.holds Tryd.pinned (OpenSpec.upto gapBackSpec)

/-- 'foolscaplaw02.GapSlices', WHERE WHAT IT READS IS OF BULK AT MOST 1048576: true; the input reads as it did. -/
def gapSlicesUptoRow : OpenClaim := { program := "ytfhnepihbofabaadoor", sum := "6de1929b5e18d4db51728ed0ea02a20b41d31e2f6e4c988d8de29b9eff99532e", func := "foolscap/foolscaplaw02.GapSlices", spec := "gapSlices", unfollowed := true, recurses := true, named := ["unicode/utf8.first", "unicode/utf8.acceptRanges"], apart := false, laid := [("unicode/utf8.acceptRanges", laid_unicode_utf8_acceptRanges), ("unicode/utf8.first", laid_unicode_utf8_first)], narrowed := true }
def GapSlicesUptoSaid : Prop := gapSlicesUptoRow.holds Tryd.pinned (OpenSpec.upto gapSlicesSpec)

/-- 'foolscaplaw02.GapSame', WHERE WHAT IT READS IS OF BULK AT MOST 1048576: true; the input reads as it did. -/
def gapSameUptoRow : OpenClaim := { program := "ytfhnepihbofabaadoor", sum := "6de1929b5e18d4db51728ed0ea02a20b41d31e2f6e4c988d8de29b9eff99532e", func := "foolscap/foolscaplaw02.GapSame", spec := "gapSame", unfollowed := true, recurses := true, named := ["unicode/utf8.first", "unicode/utf8.acceptRanges"], apart := false, laid := [("unicode/utf8.acceptRanges", laid_unicode_utf8_acceptRanges), ("unicode/utf8.first", laid_unicode_utf8_first)], narrowed := true }
def GapSameUptoSaid : Prop := gapSameUptoRow.holds Tryd.pinned (OpenSpec.upto gapSameSpec)

/-- 'foolscaplaw02.GapPlays', WHERE WHAT IT READS IS OF BULK AT MOST 1048576: true; the input reads as it did. -/
def gapPlaysUptoRow : OpenClaim := { program := "ytfhnepihbofabaadoor", sum := "6de1929b5e18d4db51728ed0ea02a20b41d31e2f6e4c988d8de29b9eff99532e", func := "foolscap/foolscaplaw02.GapPlays", spec := "gapPlays", unfollowed := true, recurses := true, named := ["unicode/utf8.first", "unicode/utf8.acceptRanges"], apart := false, laid := [("unicode/utf8.acceptRanges", laid_unicode_utf8_acceptRanges), ("unicode/utf8.first", laid_unicode_utf8_first)], narrowed := true }
def GapPlaysUptoSaid : Prop := gapPlaysUptoRow.holds Tryd.pinned (OpenSpec.upto gapPlaysSpec)

end Rows
end Go.Proofs.YtfhnepihbofabaaDoor
