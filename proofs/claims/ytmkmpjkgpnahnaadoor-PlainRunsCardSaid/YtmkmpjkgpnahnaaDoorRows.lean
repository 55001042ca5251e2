/-
  NARROWER THAN 'FOR EVERY INPUT', by the rows' own cells (each row's printed sentence says how): PlainPairs: laid · PlainMeets: laid · PlainBack: laid · PlainRaw: laid · PlainRuns: laid.
  DERIVED. THE GIVEN ROWS OF THIS SEAT. 5 by the template 'for every input the law returns true; each argument reads behind the call as it read before'; 0 by the template 'total and deterministic' (their statements: YtmkmpjkgpnahnaaDoorTotals.lean).
  GIVEN WITH THE SEED: the statements are not yours to turn. If you find one false, say at which input.
  Laid BY PROGRAM, IN A SANDBOX (cutbox-rows.mjs): the forced cells as the released guide's own fill.sh prints them over the translation 180e674dccb2787f… (all of the seat's roots in one cut). By AI agents, Wed Nov 11 2026. No macro, syntax, notation, axiom, sorry.
-/
import Derived.Test.YtmkmpjkgpnahnaaDoorChecked
import GoSem.PinnedTables
import GoSem.Claim
import GoSem.ClaimJoined
import GoSem.ClaimMapViews
import Derived.JoinedTies
import Derived.KernelRfl
namespace Go.Proofs.YtmkmpjkgpnahnaaDoor
/- THE CELL 'sum', in the pinned program and in every row, IS THE sha256 OF THE DUMP (.gsa) THAT YtmkmpjkgpnahnaaDoorProg.lean LOADS. Nothing in Lean hashes anything: it is a label: what it is worth is what the hold of that sum in a sandbox is worth. -/
noncomputable def Tryd.pinned : Pinned := { name := "ytmkmpjkgpnahnaadoor", sum := "180e674dccb2787f64dd487cc6f28c000690f6987ef76de691728784b0fd0039", checked := Tryd.checked }
namespace Rows
def none {H : Type} : Left H := { results := [], args := [] }

/- WHAT THE LISTED PACKAGE-LEVEL VARIABLES READ AS WHEN THE CALL BEGINS. Each datum BY PROGRAM (the guide's laid-datum.mjs) off the statement by which the dump's own 'gosem.cut.vars' lays the variable. In a bare row this is a premise. The card (YtmkmpjkgpnahnaaDoorCards.lean) ties it to the program's text. -/
def laid_unicode_utf8_acceptRanges {H : Type} : DataW H := .agg [.agg [.lit (.int .u8 128), .lit (.int .u8 191)], .agg [.lit (.int .u8 160), .lit (.int .u8 191)], .agg [.lit (.int .u8 128), .lit (.int .u8 159)], .agg [.lit (.int .u8 144), .lit (.int .u8 191)], .agg [.lit (.int .u8 128), .lit (.int .u8 143)], .agg [.lit (.int .u8 0), .lit (.int .u8 0)], .agg [.lit (.int .u8 0), .lit (.int .u8 0)], .agg [.lit (.int .u8 0), .lit (.int .u8 0)], .agg [.lit (.int .u8 0), .lit (.int .u8 0)], .agg [.lit (.int .u8 0), .lit (.int .u8 0)], .agg [.lit (.int .u8 0), .lit (.int .u8 0)], .agg [.lit (.int .u8 0), .lit (.int .u8 0)], .agg [.lit (.int .u8 0), .lit (.int .u8 0)], .agg [.lit (.int .u8 0), .lit (.int .u8 0)], .agg [.lit (.int .u8 0), .lit (.int .u8 0)], .agg [.lit (.int .u8 0), .lit (.int .u8 0)]]
/-- One of Go's own tables, pinned by name: the form's constant. -/
def laid_unicode_utf8_first : DataW Unit := Go.Pinned.utf8First

/-- 'foolscaplaw29.PlainPairs': WHATEVER THE INPUT: true; the input reads as it did. -/
def plainPairsSpec : ChangeSpec := { name := "plainPairs", fn := fun _ => fun
  | [d1, d2, d3] => { results := [.lit (.bool true)], args := [d1, d2, d3] }
  | _ => none }
def plainPairsRow : OpenClaim := { program := "ytmkmpjkgpnahnaadoor", sum := "180e674dccb2787f64dd487cc6f28c000690f6987ef76de691728784b0fd0039", func := "foolscap/foolscaplaw29.PlainPairs", spec := "plainPairs", unfollowed := true, recurses := true, named := ["unicode/utf8.first", "unicode/utf8.acceptRanges"], apart := false, laid := [("unicode/utf8.acceptRanges", laid_unicode_utf8_acceptRanges), ("unicode/utf8.first", laid_unicode_utf8_first)] }
def PlainPairsSaid : Prop := plainPairsRow.holds Tryd.pinned (OpenSpec.ofChange plainPairsSpec)

/-- ITS FALSE NEIGHBOUR: 'it returns false'. Refute it at one input. -/
def plainPairsWrong : ChangeSpec := { name := "plainPairs", fn := fun _ => fun
  | [d1, d2, d3] => { results := [.lit (.bool false)], args := [d1, d2, d3] }
  | _ => none }
def PlainPairsWrongFalsely : Prop := plainPairsRow.holds Tryd.pinned (OpenSpec.ofChange plainPairsWrong)

/-- 'foolscaplaw29.PlainMeets': WHATEVER THE INPUT: true; the input reads as it did. -/
def plainMeetsSpec : ChangeSpec := { name := "plainMeets", fn := fun _ => fun
  | [d1, d2, d3] => { results := [.lit (.bool true)], args := [d1, d2, d3] }
  | _ => none }
def plainMeetsRow : OpenClaim := { program := "ytmkmpjkgpnahnaadoor", sum := "180e674dccb2787f64dd487cc6f28c000690f6987ef76de691728784b0fd0039", func := "foolscap/foolscaplaw29.PlainMeets", spec := "plainMeets", unfollowed := true, recurses := true, named := ["unicode/utf8.first", "unicode/utf8.acceptRanges"], apart := false, laid := [("unicode/utf8.acceptRanges", laid_unicode_utf8_acceptRanges), ("unicode/utf8.first", laid_unicode_utf8_first)] }
def PlainMeetsSaid : Prop := plainMeetsRow.holds Tryd.pinned (OpenSpec.ofChange plainMeetsSpec)

/-- ITS FALSE NEIGHBOUR: 'it returns false'. Refute it at one input. -/
def plainMeetsWrong : ChangeSpec := { name := "plainMeets", fn := fun _ => fun
  | [d1, d2, d3] => { results := [.lit (.bool false)], args := [d1, d2, d3] }
  | _ => none }
def PlainMeetsWrongFalsely : Prop := plainMeetsRow.holds Tryd.pinned (OpenSpec.ofChange plainMeetsWrong)

/-- 'foolscaplaw29.PlainBack': WHATEVER THE INPUT: true; the input reads as it did. -/
def plainBackSpec : ChangeSpec := { name := "plainBack", fn := fun _ => fun
  | [d1, d2, d3] => { results := [.lit (.bool true)], args := [d1, d2, d3] }
  | _ => none }
def plainBackRow : OpenClaim := { program := "ytmkmpjkgpnahnaadoor", sum := "180e674dccb2787f64dd487cc6f28c000690f6987ef76de691728784b0fd0039", func := "foolscap/foolscaplaw29.PlainBack", spec := "plainBack", unfollowed := true, recurses := true, named := ["unicode/utf8.first", "unicode/utf8.acceptRanges"], apart := false, laid := [("unicode/utf8.acceptRanges", laid_unicode_utf8_acceptRanges), ("unicode/utf8.first", laid_unicode_utf8_first)] }
def PlainBackSaid : Prop := plainBackRow.holds Tryd.pinned (OpenSpec.ofChange plainBackSpec)

/-- ITS FALSE NEIGHBOUR: 'it returns false'. Refute it at one input. -/
def plainBackWrong : ChangeSpec := { name := "plainBack", fn := fun _ => fun
  | [d1, d2, d3] => { results := [.lit (.bool false)], args := [d1, d2, d3] }
  | _ => none }
def PlainBackWrongFalsely : Prop := plainBackRow.holds Tryd.pinned (OpenSpec.ofChange plainBackWrong)

/-- 'foolscaplaw29.PlainRaw': WHATEVER THE INPUT: true; the input reads as it did. -/
def plainRawSpec : ChangeSpec := { name := "plainRaw", fn := fun _ => fun
  | [d1, d2, d3] => { results := [.lit (.bool true)], args := [d1, d2, d3] }
  | _ => none }
def plainRawRow : OpenClaim := { program := "ytmkmpjkgpnahnaadoor", sum := "180e674dccb2787f64dd487cc6f28c000690f6987ef76de691728784b0fd0039", func := "foolscap/foolscaplaw29.PlainRaw", spec := "plainRaw", unfollowed := true, recurses := true, named := ["unicode/utf8.first", "unicode/utf8.acceptRanges"], apart := false, laid := [("unicode/utf8.acceptRanges", laid_unicode_utf8_acceptRanges), ("unicode/utf8.first", laid_unicode_utf8_first)] }
def PlainRawSaid : Prop := plainRawRow.holds Tryd.pinned (OpenSpec.ofChange plainRawSpec)

/-- ITS FALSE NEIGHBOUR: 'it returns false'. Refute it at one input. -/
def plainRawWrong : ChangeSpec := { name := "plainRaw", fn := fun _ => fun
  | [d1, d2, d3] => { results := [.lit (.bool false)], args := [d1, d2, d3] }
  | _ => none }
def PlainRawWrongFalsely : Prop := plainRawRow.holds Tryd.pinned (OpenSpec.ofChange plainRawWrong)

/-- 'foolscaplaw29.PlainRuns': WHATEVER THE INPUT: true; the input reads as it did. -/
def plainRunsSpec : ChangeSpec := { name := "plainRuns", fn := fun _ => fun
  | [d1, d2, d3] => { results := [.lit (.bool true)], args := [d1, d2, d3] }
  | _ => none }
def plainRunsRow : OpenClaim := { program := "ytmkmpjkgpnahnaadoor", sum := "180e674dccb2787f64dd487cc6f28c000690f6987ef76de691728784b0fd0039", func := "foolscap/foolscaplaw29.PlainRuns", spec := "plainRuns", inPlace := ["slices.overlaps[rune]"], unfollowed := true, recurses := true, named := ["unicode/utf8.first", "unicode/utf8.acceptRanges"], apart := false, laid := [("unicode/utf8.acceptRanges", laid_unicode_utf8_acceptRanges), ("unicode/utf8.first", laid_unicode_utf8_first)] }
def PlainRunsSaid : Prop := plainRunsRow.holds Tryd.pinned (OpenSpec.ofChange plainRunsSpec)

/-- ITS FALSE NEIGHBOUR: 'it returns false'. Refute it at one input. -/
def plainRunsWrong : ChangeSpec := { name := "plainRuns", fn := fun _ => fun
  | [d1, d2, d3] => { results := [.lit (.bool false)], args := [d1, d2, d3] }
  | _ => none }
def PlainRunsWrongFalsely : Prop := plainRunsRow.holds Tryd.pinned (OpenSpec.ofChange plainRunsWrong)

/- THE SECOND FORM. 'bulk': how many values and letters a reading holds, each counted each time it is reached (what is shared counts as often as it is met; a slice's spare places count too). A statement '..UptoSaid' is the law's where the arguments, and the package variables that the reading takes, are together of bulk at most 1048576: NARROWER than '..Said'. Prove '..Said' where nothing that the law and all that it calls make is longer than what came in: it says more and counts as full. Else prove '..UptoSaid'. A law counts once. -/
mutual
def uptoBulk {H : Type} : DataW H → Nat
  | .lit (.string bytes) => bytes.length + 1
  | .lit _ => 1
  | .nil => 1
  | .ptr d => uptoBulk d + 1
  | .slice elems spare => uptoBulkAll elems + uptoBulkAll spare + 1
  | .agg parts => uptoBulkAll parts + 1
  | .iface _ d => uptoBulk d + 1
  | .map entries => uptoBulkEntries entries + 1
  | .held _ => 1
def uptoBulkAll {H : Type} : List (DataW H) → Nat
  | [] => 0
  | d :: r => uptoBulk d + uptoBulkAll r
def uptoBulkEntries {H : Type} : List (Lit × DataW H) → Nat
  | [] => 0
  | x :: r => uptoBulkEntry x + uptoBulkEntries r
def uptoBulkEntry {H : Type} : Lit × DataW H → Nat
  | (.string bytes, d) => bytes.length + uptoBulk d + 1
  | (_, d) => uptoBulk d + 1
 end
def uptoSmall : (H : Type) → List (DataW H) → Bool := fun _ ds => decide (uptoBulkAll ds ≤ 1048576)
def OpenSpec.upto (s : _root_.Go.ChangeSpec) : _root_.Go.OpenSpec := { _root_.Go.OpenSpec.ofChange s with cond := some uptoSmall }

/-- 'foolscaplaw29.PlainPairs', WHERE WHAT IT READS IS OF BULK AT MOST 1048576: true; the input reads as it did. -/
def plainPairsUptoRow : OpenClaim := { program := "ytmkmpjkgpnahnaadoor", sum := "180e674dccb2787f64dd487cc6f28c000690f6987ef76de691728784b0fd0039", func := "foolscap/foolscaplaw29.PlainPairs", spec := "plainPairs", unfollowed := true, recurses := true, named := ["unicode/utf8.first", "unicode/utf8.acceptRanges"], apart := false, laid := [("unicode/utf8.acceptRanges", laid_unicode_utf8_acceptRanges), ("unicode/utf8.first", laid_unicode_utf8_first)], narrowed := true }
def PlainPairsUptoSaid : Prop := plainPairsUptoRow.holds Tryd.pinned (OpenSpec.upto plainPairsSpec)

/-- 'foolscaplaw29.PlainMeets', WHERE WHAT IT READS IS OF BULK AT MOST 1048576: true; the input reads as it did. -/
def plainMeetsUptoRow : OpenClaim := { program := "ytmkmpjkgpnahnaadoor", sum := "180e674dccb2787f64dd487cc6f28c000690f6987ef76de691728784b0fd0039", func := "foolscap/foolscaplaw29.PlainMeets", spec := "plainMeets", unfollowed := true, recurses := true, named := ["unicode/utf8.first", "unicode/utf8.acceptRanges"], apart := false, laid := [("unicode/utf8.acceptRanges", laid_unicode_utf8_acceptRanges), ("unicode/utf8.first", laid_unicode_utf8_first)], narrowed := true }
def PlainMeetsUptoSaid : Prop := plainMeetsUptoRow.holds Tryd.pinned (OpenSpec.upto plainMeetsSpec)

/-- 'foolscaplaw29.PlainBack', WHERE WHAT IT READS IS OF BULK AT MOST 1048576: true; the input reads as it did. -/
def plainBackUptoRow : OpenClaim := { program := "ytmkmpjkgpnahnaadoor", sum := "180e674dccb2787f64dd487cc6f28c000690f6987ef76de691728784b0fd0039", func := "foolscap/foolscaplaw29.PlainBack", spec := "plainBack", unfollowed := true, recurses := true, named := ["unicode/utf8.first", "unicode/utf8.acceptRanges"], apart := false, laid := [("unicode/utf8.acceptRanges", laid_unicode_utf8_acceptRanges), ("unicode/utf8.first", laid_unicode_utf8_first)], narrowed := true }
def PlainBackUptoSaid : Prop := plainBackUptoRow.holds Tryd.pinned (OpenSpec.upto plainBackSpec)

/-- 'foolscaplaw29.PlainRaw', WHERE WHAT IT READS IS OF BULK AT MOST 1048576: true; the input reads as it did. -/
def plainRawUptoRow : OpenClaim := { program := "ytmkmpjkgpnahnaadoor", sum := "180e674dccb2787f64dd487cc6f28c000690f6987ef76de691728784b0fd0039", func := "foolscap/foolscaplaw29.PlainRaw", spec := "plainRaw", unfollowed := true, recurses := true, named := ["unicode/utf8.first", "unicode/utf8.acceptRanges"], apart := false, laid := [("unicode/utf8.acceptRanges", laid_unicode_utf8_acceptRanges), ("unicode/utf8.first", laid_unicode_utf8_first)], narrowed := true }
def PlainRawUptoSaid : Prop := plainRawUptoRow.holds Tryd.pinned (OpenSpec.upto plainRawSpec)

/-- 'foolscaplaw29.PlainRuns', WHERE WHAT IT READS IS OF BULK AT MOST 1048576: true; the input reads as it did. -/
def plainRunsUptoRow : OpenClaim := { program := "ytmkmpjkgpnahnaadoor", sum := "180e674dccb2787f64dd487cc6f28c000690f6987ef76de691728784b0fd0039", func := "foolscap/foolscaplaw29.PlainRuns", spec := "plainRuns", inPlace := ["slices.overlaps[rune]"], unfollowed := true, recurses := true, named := ["unicode/utf8.first", "unicode/utf8.acceptRanges"], apart := false, laid := [("unicode/utf8.acceptRanges", laid_unicode_utf8_acceptRanges), ("unicode/utf8.first", laid_unicode_utf8_first)], narrowed := true }
def PlainRunsUptoSaid : Prop := plainRunsUptoRow.holds Tryd.pinned (OpenSpec.upto plainRunsSpec)

end Rows
end Go.Proofs.YtmkmpjkgpnahnaaDoor
