/-
  NARROWER THAN 'FOR EVERY INPUT', by the rows' own cells (each row's printed sentence says how): RunesCut: laid · RunesDigest: laid · RunesSplit: laid · RunesJoin: laid · RunesBack: laid · RunesOne: laid.
  DERIVED. THE GIVEN ROWS OF THIS SEAT. 6 by the template 'for every input the law returns true; each argument reads behind the call as it read before'; 0 by the template 'total and deterministic' (their statements: YteceigbiemohnaaDoorTotals.lean).
  GIVEN WITH THE SEED: the statements are not yours to turn. If you find one false, say at which input.
  Laid BY PROGRAM, IN A SANDBOX (cutbox-rows.mjs): the forced cells as the released guide's own fill.sh prints them over the translation c87eae68c0422215… (all of the seat's roots in one cut). By AI agents, Wed Nov 11 2026. No macro, syntax, notation, axiom, sorry.
-/
import Derived.Test.YteceigbiemohnaaDoorChecked
import GoSem.PinnedTables
import GoSem.Claim
import GoSem.ClaimJoined
import GoSem.ClaimMapViews
import Derived.JoinedTies
import Derived.KernelRfl
namespace Go.Proofs.YteceigbiemohnaaDoor
/- THE CELL 'sum', in the pinned program and in every row, IS THE sha256 OF THE DUMP (.gsa) THAT YteceigbiemohnaaDoorProg.lean LOADS. Nothing in Lean hashes anything: it is a label: what it is worth is what the hold of that sum in a sandbox is worth. -/
noncomputable def Tryd.pinned : Pinned := { name := "yteceigbiemohnaadoor", sum := "c87eae68c0422215a40ddd9e2652703e7b10bd413d70c7631839a869beeb5c94", checked := Tryd.checked }
namespace Rows
def none {H : Type} : Left H := { results := [], args := [] }

/- WHAT THE LISTED PACKAGE-LEVEL VARIABLES READ AS WHEN THE CALL BEGINS. Each datum BY PROGRAM (the guide's laid-datum.mjs) off the statement by which the dump's own 'gosem.cut.vars' lays the variable. In a bare row this is a premise. The card (YteceigbiemohnaaDoorCards.lean) ties it to the program's text. -/
def laid_unicode_utf8_acceptRanges {H : Type} : DataW H := .agg [.agg [.lit (.int .u8 128), .lit (.int .u8 191)], .agg [.lit (.int .u8 160), .lit (.int .u8 191)], .agg [.lit (.int .u8 128), .lit (.int .u8 159)], .agg [.lit (.int .u8 144), .lit (.int .u8 191)], .agg [.lit (.int .u8 128), .lit (.int .u8 143)], .agg [.lit (.int .u8 0), .lit (.int .u8 0)], .agg [.lit (.int .u8 0), .lit (.int .u8 0)], .agg [.lit (.int .u8 0), .lit (.int .u8 0)], .agg [.lit (.int .u8 0), .lit (.int .u8 0)], .agg [.lit (.int .u8 0), .lit (.int .u8 0)], .agg [.lit (.int .u8 0), .lit (.int .u8 0)], .agg [.lit (.int .u8 0), .lit (.int .u8 0)], .agg [.lit (.int .u8 0), .lit (.int .u8 0)], .agg [.lit (.int .u8 0), .lit (.int .u8 0)], .agg [.lit (.int .u8 0), .lit (.int .u8 0)], .agg [.lit (.int .u8 0), .lit (.int .u8 0)]]
/-- One of Go's own tables, pinned by name: the form's constant. -/
def laid_unicode_utf8_first : DataW Unit := Go.Pinned.utf8First

/-- 'foolscaplaw01.RunesCut': WHATEVER THE INPUT: true; the input reads as it did. -/
def runesCutSpec : ChangeSpec := { name := "runesCut", fn := fun _ => fun
  | [d1, d2, d3] => { results := [.lit (.bool true)], args := [d1, d2, d3] }
  | _ => none }
def runesCutRow : OpenClaim := { program := "yteceigbiemohnaadoor", sum := "c87eae68c0422215a40ddd9e2652703e7b10bd413d70c7631839a869beeb5c94", func := "foolscap/foolscaplaw01.RunesCut", spec := "runesCut", unfollowed := true, recurses := true, named := ["unicode/utf8.first", "unicode/utf8.acceptRanges"], apart := false, laid := [("unicode/utf8.acceptRanges", laid_unicode_utf8_acceptRanges), ("unicode/utf8.first", laid_unicode_utf8_first)] }
def RunesCutSaid : Prop := runesCutRow.holds Tryd.pinned (OpenSpec.ofChange runesCutSpec)

/-- ITS FALSE NEIGHBOUR: 'it returns false'. Refute it at one input. -/
def runesCutWrong : ChangeSpec := { name := "runesCut", fn := fun _ => fun
  | [d1, d2, d3] => { results := [.lit (.bool false)], args := [d1, d2, d3] }
  | _ => none }
def RunesCutWrongFalsely : Prop := runesCutRow.holds Tryd.pinned (OpenSpec.ofChange runesCutWrong)

/-- 'foolscaplaw01.RunesDigest': WHATEVER THE INPUT: true; the input reads as it did. -/
def runesDigestSpec : ChangeSpec := { name := "runesDigest", fn := fun _ => fun
  | [d1, d2] => { results := [.lit (.bool true)], args := [d1, d2] }
  | _ => none }
def runesDigestRow : OpenClaim := { program := "yteceigbiemohnaadoor", sum := "c87eae68c0422215a40ddd9e2652703e7b10bd413d70c7631839a869beeb5c94", func := "foolscap/foolscaplaw01.RunesDigest", spec := "runesDigest", unfollowed := true, recurses := true, named := ["unicode/utf8.first", "unicode/utf8.acceptRanges"], apart := false, laid := [("unicode/utf8.acceptRanges", laid_unicode_utf8_acceptRanges), ("unicode/utf8.first", laid_unicode_utf8_first)] }
def RunesDigestSaid : Prop := runesDigestRow.holds Tryd.pinned (OpenSpec.ofChange runesDigestSpec)

/-- ITS FALSE NEIGHBOUR: 'it returns false'. Refute it at one input. -/
def runesDigestWrong : ChangeSpec := { name := "runesDigest", fn := fun _ => fun
  | [d1, d2] => { results := [.lit (.bool false)], args := [d1, d2] }
  | _ => none }
def RunesDigestWrongFalsely : Prop := runesDigestRow.holds Tryd.pinned (OpenSpec.ofChange runesDigestWrong)

/-- 'foolscaplaw01.RunesSplit': WHATEVER THE INPUT: true; the input reads as it did. -/
def runesSplitSpec : ChangeSpec := { name := "runesSplit", fn := fun _ => fun
  | [d] => { results := [.lit (.bool true)], args := [d] }
  | _ => none }
def runesSplitRow : OpenClaim := { program := "yteceigbiemohnaadoor", sum := "c87eae68c0422215a40ddd9e2652703e7b10bd413d70c7631839a869beeb5c94", func := "foolscap/foolscaplaw01.RunesSplit", spec := "runesSplit", unfollowed := true, recurses := true, named := ["unicode/utf8.first", "unicode/utf8.acceptRanges"], apart := false, laid := [("unicode/utf8.acceptRanges", laid_unicode_utf8_acceptRanges), ("unicode/utf8.first", laid_unicode_utf8_first)] }
def RunesSplitSaid : Prop := runesSplitRow.holds Tryd.pinned (OpenSpec.ofChange runesSplitSpec)

/-- ITS FALSE NEIGHBOUR: 'it returns false'. Refute it at one input. -/
def runesSplitWrong : ChangeSpec := { name := "runesSplit", fn := fun _ => fun
  | [d] => { results := [.lit (.bool false)], args := [d] }
  | _ => none }
def RunesSplitWrongFalsely : Prop := runesSplitRow.holds Tryd.pinned (OpenSpec.ofChange runesSplitWrong)

/-- 'foolscaplaw01.RunesJoin': WHATEVER THE INPUT: true; the input reads as it did. -/
def runesJoinSpec : ChangeSpec := { name := "runesJoin", fn := fun _ => fun
  | [d] => { results := [.lit (.bool true)], args := [d] }
  | _ => none }
def runesJoinRow : OpenClaim := { program := "yteceigbiemohnaadoor", sum := "c87eae68c0422215a40ddd9e2652703e7b10bd413d70c7631839a869beeb5c94", func := "foolscap/foolscaplaw01.RunesJoin", spec := "runesJoin", unfollowed := true, recurses := true, named := ["unicode/utf8.first", "unicode/utf8.acceptRanges"], apart := false, laid := [("unicode/utf8.acceptRanges", laid_unicode_utf8_acceptRanges), ("unicode/utf8.first", laid_unicode_utf8_first)] }
def RunesJoinSaid : Prop := runesJoinRow.holds Tryd.pinned (OpenSpec.ofChange runesJoinSpec)

/-- ITS FALSE NEIGHBOUR: 'it returns false'. Refute it at one input. -/
def runesJoinWrong : ChangeSpec := { name := "runesJoin", fn := fun _ => fun
  | [d] => { results := [.lit (.bool false)], args := [d] }
  | _ => none }
def RunesJoinWrongFalsely : Prop := runesJoinRow.holds Tryd.pinned (OpenSpec.ofChange runesJoinWrong)

/-- 'foolscaplaw01.RunesBack': WHATEVER THE INPUT: true; the input reads as it did. -/
def runesBackSpec : ChangeSpec := { name := "runesBack", fn := fun _ => fun
  | [d1, d2] => { results := [.lit (.bool true)], args := [d1, d2] }
  | _ => none }
def runesBackRow : OpenClaim := { program := "yteceigbiemohnaadoor", sum := "c87eae68c0422215a40ddd9e2652703e7b10bd413d70c7631839a869beeb5c94", func := "foolscap/foolscaplaw01.RunesBack", spec := "runesBack", unfollowed := true, recurses := true, named := ["unicode/utf8.first", "unicode/utf8.acceptRanges"], apart := false, laid := [("unicode/utf8.acceptRanges", laid_unicode_utf8_acceptRanges), ("unicode/utf8.first", laid_unicode_utf8_first)] }
def RunesBackSaid : Prop := runesBackRow.holds Tryd.pinned (OpenSpec.ofChange runesBackSpec)

/-- ITS FALSE NEIGHBOUR: 'it returns false'. Refute it at one input. -/
def runesBackWrong : ChangeSpec := { name := "runesBack", fn := fun _ => fun
  | [d1, d2] => { results := [.lit (.bool false)], args := [d1, d2] }
  | _ => none }
def RunesBackWrongFalsely : Prop := runesBackRow.holds Tryd.pinned (OpenSpec.ofChange runesBackWrong)

/-- 'foolscaplaw01.RunesOne': WHATEVER THE INPUT: true; the input reads as it did. -/
def runesOneSpec : ChangeSpec := { name := "runesOne", fn := fun _ => fun
  | [d1, d2] => { results := [.lit (.bool true)], args := [d1, d2] }
  | _ => none }
def runesOneRow : OpenClaim := { program := "yteceigbiemohnaadoor", sum := "c87eae68c0422215a40ddd9e2652703e7b10bd413d70c7631839a869beeb5c94", func := "foolscap/foolscaplaw01.RunesOne", spec := "runesOne", unfollowed := true, recurses := true, named := ["unicode/utf8.first", "unicode/utf8.acceptRanges"], apart := false, laid := [("unicode/utf8.acceptRanges", laid_unicode_utf8_acceptRanges), ("unicode/utf8.first", laid_unicode_utf8_first)] }
def RunesOneSaid : Prop := runesOneRow.holds Tryd.pinned (OpenSpec.ofChange runesOneSpec)

/-- ITS FALSE NEIGHBOUR: 'it returns false'. Refute it at one input. -/
def runesOneWrong : ChangeSpec := { name := "runesOne", fn := fun _ => fun
  | [d1, d2] => { results := [.lit (.bool false)], args := [d1, d2] }
  | _ => none }
def RunesOneWrongFalsely : Prop := runesOneRow.holds Tryd.pinned (OpenSpec.ofChange runesOneWrong)

/- THE SECOND FORM. 'bulk': how many values and letters a reading holds, each counted each time it is reached (what is shared counts as often as it is met; a slice's spare places count too). A statement '..UptoSaid' is the law's where the arguments, and the package variables that the reading takes, are together of bulk at most 1048576: NARROWER than '..Said'. Prove '..Said' where nothing that the law and all that it calls make is longer than what came in: it says more and counts as full. Else prove '..UptoSaid'. A law counts once. -/
mutual
def uptoBulk {H : Type} : DataW H → Nat
  | .lit (.string bytes) => bytes.length + 1
  | .lit _ => 1
  | .nil => 1
  | .ptr d => uptoBulk d + 1
  | .slice elems spare => uptoBulkAll elems + uptoBulkAll spare + 1
  | .agg parts => uptoBulkAll parts + 1
  | .iface _ d => uptoBulk d + 1
  | .map entries => uptoBulkEntries entries + 1
  | .held _ => 1
def uptoBulkAll {H : Type} : List (DataW H) → Nat
  | [] => 0
  | d :: r => uptoBulk d + uptoBulkAll r
def uptoBulkEntries {H : Type} : List (Lit × DataW H) → Nat
  | [] => 0
  | x :: r => uptoBulkEntry x + uptoBulkEntries r
def uptoBulkEntry {H : Type} : Lit × DataW H → Nat
  | (.string bytes, d) => bytes.length + uptoBulk d + 1
  | (_, d) => uptoBulk d + 1
 end
def uptoSmall : (H : Type) → List (DataW H) → Bool := fun _ ds => decide (uptoBulkAll ds ≤ 1048576)
def OpenSpec.upto (s : _root_.Go.ChangeSpec) : _root_.Go.OpenSpec := { _root_.Go.OpenSpec.ofChange s with cond := some uptoSmall }

/-- 'foolscaplaw01.RunesCut', WHERE WHAT IT READS IS OF BULK AT MOST 1048576: true; the input reads as it did. -/
def runesCutUptoRow : OpenClaim := { program := "yteceigbiemohnaadoor", sum := "c87eae68c0422215a40ddd9e2652703e7b10bd413d70c7631839a869beeb5c94", func := "foolscap/foolscaplaw01.RunesCut", spec := "runesCut", unfollowed := true, recurses := true, named := ["unicode/utf8.first", "unicode/utf8.acceptRanges"], apart := false, laid := [("unicode/utf8.acceptRanges", laid_unicode_utf8_acceptRanges), ("unicode/utf8.first", laid_unicode_utf8_first)], narrowed := true }
def RunesCutUptoSaid : Prop := runesCutUptoRow.holds Tryd.pinned (OpenSpec.upto runesCutSpec)

/-- 'foolscaplaw01.RunesDigest', WHERE WHAT IT READS IS OF BULK AT MOST 1048576: true; the input reads as it did. -/
def runesDigestUptoRow : OpenClaim := { program := "yteceigbiemohnaadoor", sum := "c87eae68c0422215a40ddd9e2652703e7b10bd413d70c7631839a869beeb5c94", func := "foolscap/foolscaplaw01.RunesDigest", spec := "runesDigest", unfollowed := true, recurses := true, named := ["unicode/utf8.first", "unicode/utf8.acceptRanges"], apart := false, laid := [("unicode/utf8.acceptRanges", laid_unicode_utf8_acceptRanges), ("unicode/utf8.first", laid_unicode_utf8_first)], narrowed := true }
def RunesDigestUptoSaid : Prop := runesDigestUptoRow.holds Tryd.pinned (OpenSpec.upto runesDigestSpec)

/-- 'foolscaplaw01.RunesSplit', WHERE WHAT IT READS IS OF BULK AT MOST 1048576: true; the input reads as it did. -/
def runesSplitUptoRow : OpenClaim := { program := "yteceigbiemohnaadoor", sum := "c87eae68c0422215a40ddd9e2652703e7b10bd413d70c7631839a869beeb5c94", func := "foolscap/foolscaplaw01.RunesSplit", spec := "runesSplit", unfollowed := true, recurses := true, named := ["unicode/utf8.first", "unicode/utf8.acceptRanges"], apart := false, laid := [("unicode/utf8.acceptRanges", laid_unicode_utf8_acceptRanges), ("unicode/utf8.first", laid_unicode_utf8_first)], narrowed := true }
def RunesSplitUptoSaid : Prop := runesSplitUptoRow.holds Tryd.pinned (OpenSpec.upto runesSplitSpec)

/-- 'foolscaplaw01.RunesJoin', WHERE WHAT IT READS IS OF BULK AT MOST 1048576: true; the input reads as it did. -/
def runesJoinUptoRow : OpenClaim := { program := "yteceigbiemohnaadoor", sum := "c87eae68c0422215a40ddd9e2652703e7b10bd413d70c7631839a869beeb5c94", func := "foolscap/foolscaplaw01.RunesJoin", spec := "runesJoin", unfollowed := true, recurses := true, named := ["unicode/utf8.first", "unicode/utf8.acceptRanges"], apart := false, laid := [("unicode/utf8.acceptRanges", laid_unicode_utf8_acceptRanges), ("unicode/utf8.first", laid_unicode_utf8_first)], narrowed := true }
def RunesJoinUptoSaid : Prop := runesJoinUptoRow.holds Tryd.pinned (OpenSpec.upto runesJoinSpec)

/-- 'foolscaplaw01.RunesBack', WHERE WHAT IT READS IS OF BULK AT MOST 1048576: true; the input reads as it did. -/
def runesBackUptoRow : OpenClaim := { program := "yteceigbiemohnaadoor", sum := "c87eae68c0422215a40ddd9e2652703e7b10bd413d70c7631839a869beeb5c94", func := "foolscap/foolscaplaw01.RunesBack", spec := "runesBack", unfollowed := true, recurses := true, named := ["unicode/utf8.first", "unicode/utf8.acceptRanges"], apart := false, laid := [("unicode/utf8.acceptRanges", laid_unicode_utf8_acceptRanges), ("unicode/utf8.first", laid_unicode_utf8_first)], narrowed := true }
def RunesBackUptoSaid : Prop := runesBackUptoRow.holds Tryd.pinned (OpenSpec.upto runesBackSpec)

/-- 'foolscaplaw01.RunesOne', WHERE WHAT IT READS IS OF BULK AT MOST 1048576: true; the input reads as it did. -/
def runesOneUptoRow : OpenClaim := { program := "yteceigbiemohnaadoor", sum := "c87eae68c0422215a40ddd9e2652703e7b10bd413d70c7631839a869beeb5c94", func := "foolscap/foolscaplaw01.RunesOne", spec := "runesOne", unfollowed := true, recurses := true, named := ["unicode/utf8.first", "unicode/utf8.acceptRanges"], apart := false, laid := [("unicode/utf8.acceptRanges", laid_unicode_utf8_acceptRanges), ("unicode/utf8.first", laid_unicode_utf8_first)], narrowed := true }
def RunesOneUptoSaid : Prop := runesOneUptoRow.holds Tryd.pinned (OpenSpec.upto runesOneSpec)

end Rows
end Go.Proofs.YteceigbiemohnaaDoor
