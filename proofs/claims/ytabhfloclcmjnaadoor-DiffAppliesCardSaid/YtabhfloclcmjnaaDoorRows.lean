/-
  NARROWER THAN 'FOR EVERY INPUT', by the rows' own cells (each row's printed sentence says how): FindAll: laid · FindMisses: laid · FindNext: laid · DiffForm: laid · DiffDoes: laid · FindReplaces: laid · DiffTurns: laid · DiffApplies: laid.
  DERIVED. THE GIVEN ROWS OF THIS SEAT. 8 by the template 'for every input the law returns true; each argument reads behind the call as it read before'; 0 by the template 'total and deterministic' (their statements: YtabhfloclcmjnaaDoorTotals.lean).
  GIVEN WITH THE SEED: the statements are not yours to turn. If you find one false, say at which input.
  Laid BY PROGRAM, IN A SANDBOX (cutbox-rows.mjs): the forced cells as the released guide's own fill.sh prints them over the translation f29a914ccca5d2e5… (all of the seat's roots in one cut). By AI agents, Wed Nov 11 2026. No macro, syntax, notation, axiom, sorry.
-/
import Derived.Test.YtabhfloclcmjnaaDoorChecked
import GoSem.PinnedTables
import GoSem.Claim
import GoSem.ClaimJoined
import GoSem.ClaimMapViews
import Derived.JoinedTies
import Derived.KernelRfl
namespace Go.Proofs.YtabhfloclcmjnaaDoor
/- THE CELL 'sum', in the pinned program and in every row, IS THE sha256 OF THE DUMP (.gsa) THAT YtabhfloclcmjnaaDoorProg.lean LOADS. Nothing in Lean hashes anything: it is a label: what it is worth is what the hold of that sum in a sandbox is worth. -/
noncomputable def Tryd.pinned : Pinned := { name := "ytabhfloclcmjnaadoor", sum := "f29a914ccca5d2e51468565a94308251859321ad0654b71d763d68f607f9512d", checked := Tryd.checked }
namespace Rows
def none {H : Type} : Left H := { results := [], args := [] }

/- WHAT THE LISTED PACKAGE-LEVEL VARIABLES READ AS WHEN THE CALL BEGINS. Each datum BY PROGRAM (the guide's laid-datum.mjs) off the statement by which the dump's own 'gosem.cut.vars' lays the variable. In a bare row this is a premise. The card (YtabhfloclcmjnaaDoorCards.lean) ties it to the program's text. -/
def laid_unicode_utf8_acceptRanges {H : Type} : DataW H := .agg [.agg [.lit (.int .u8 128), .lit (.int .u8 191)], .agg [.lit (.int .u8 160), .lit (.int .u8 191)], .agg [.lit (.int .u8 128), .lit (.int .u8 159)], .agg [.lit (.int .u8 144), .lit (.int .u8 191)], .agg [.lit (.int .u8 128), .lit (.int .u8 143)], .agg [.lit (.int .u8 0), .lit (.int .u8 0)], .agg [.lit (.int .u8 0), .lit (.int .u8 0)], .agg [.lit (.int .u8 0), .lit (.int .u8 0)], .agg [.lit (.int .u8 0), .lit (.int .u8 0)], .agg [.lit (.int .u8 0), .lit (.int .u8 0)], .agg [.lit (.int .u8 0), .lit (.int .u8 0)], .agg [.lit (.int .u8 0), .lit (.int .u8 0)], .agg [.lit (.int .u8 0), .lit (.int .u8 0)], .agg [.lit (.int .u8 0), .lit (.int .u8 0)], .agg [.lit (.int .u8 0), .lit (.int .u8 0)], .agg [.lit (.int .u8 0), .lit (.int .u8 0)]]
/-- One of Go's own tables, pinned by name: the form's constant. -/
def laid_unicode_utf8_first : DataW Unit := Go.Pinned.utf8First

/-- 'foolscaplaw33.FindAll': WHATEVER THE INPUT: true; the input reads as it did. -/
def findAllSpec : ChangeSpec := { name := "findAll", fn := fun _ => fun
  | [d1, d2] => { results := [.lit (.bool true)], args := [d1, d2] }
  | _ => none }
def findAllRow : OpenClaim := { program := "ytabhfloclcmjnaadoor", sum := "f29a914ccca5d2e51468565a94308251859321ad0654b71d763d68f607f9512d", func := "foolscap/foolscaplaw33.FindAll", spec := "findAll", unfollowed := true, recurses := true, named := ["unicode/utf8.first", "unicode/utf8.acceptRanges"], apart := false, laid := [("unicode/utf8.acceptRanges", laid_unicode_utf8_acceptRanges), ("unicode/utf8.first", laid_unicode_utf8_first)] }
def FindAllSaid : Prop := findAllRow.holds Tryd.pinned (OpenSpec.ofChange findAllSpec)

/-- ITS FALSE NEIGHBOUR: 'it returns false'. Refute it at one input. -/
def findAllWrong : ChangeSpec := { name := "findAll", fn := fun _ => fun
  | [d1, d2] => { results := [.lit (.bool false)], args := [d1, d2] }
  | _ => none }
def FindAllWrongFalsely : Prop := findAllRow.holds Tryd.pinned (OpenSpec.ofChange findAllWrong)

/-- 'foolscaplaw33.FindMisses': WHATEVER THE INPUT: true; the input reads as it did. -/
def findMissesSpec : ChangeSpec := { name := "findMisses", fn := fun _ => fun
  | [d1, d2, d3] => { results := [.lit (.bool true)], args := [d1, d2, d3] }
  | _ => none }
def findMissesRow : OpenClaim := { program := "ytabhfloclcmjnaadoor", sum := "f29a914ccca5d2e51468565a94308251859321ad0654b71d763d68f607f9512d", func := "foolscap/foolscaplaw33.FindMisses", spec := "findMisses", unfollowed := true, recurses := true, named := ["unicode/utf8.first", "unicode/utf8.acceptRanges"], apart := false, laid := [("unicode/utf8.acceptRanges", laid_unicode_utf8_acceptRanges), ("unicode/utf8.first", laid_unicode_utf8_first)] }
def FindMissesSaid : Prop := findMissesRow.holds Tryd.pinned (OpenSpec.ofChange findMissesSpec)

/-- ITS FALSE NEIGHBOUR: 'it returns false'. Refute it at one input. -/
def findMissesWrong : ChangeSpec := { name := "findMisses", fn := fun _ => fun
  | [d1, d2, d3] => { results := [.lit (.bool false)], args := [d1, d2, d3] }
  | _ => none }
def FindMissesWrongFalsely : Prop := findMissesRow.holds Tryd.pinned (OpenSpec.ofChange findMissesWrong)

/-- 'foolscaplaw33.FindNext': WHATEVER THE INPUT: true; the input reads as it did. -/
def findNextSpec : ChangeSpec := { name := "findNext", fn := fun _ => fun
  | [d1, d2, d3] => { results := [.lit (.bool true)], args := [d1, d2, d3] }
  | _ => none }
def findNextRow : OpenClaim := { program := "ytabhfloclcmjnaadoor", sum := "f29a914ccca5d2e51468565a94308251859321ad0654b71d763d68f607f9512d", func := "foolscap/foolscaplaw33.FindNext", spec := "findNext", unfollowed := true, recurses := true, named := ["unicode/utf8.first", "unicode/utf8.acceptRanges"], apart := false, laid := [("unicode/utf8.acceptRanges", laid_unicode_utf8_acceptRanges), ("unicode/utf8.first", laid_unicode_utf8_first)] }
def FindNextSaid : Prop := findNextRow.holds Tryd.pinned (OpenSpec.ofChange findNextSpec)

/-- ITS FALSE NEIGHBOUR: 'it returns false'. Refute it at one input. -/
def findNextWrong : ChangeSpec := { name := "findNext", fn := fun _ => fun
  | [d1, d2, d3] => { results := [.lit (.bool false)], args := [d1, d2, d3] }
  | _ => none }
def FindNextWrongFalsely : Prop := findNextRow.holds Tryd.pinned (OpenSpec.ofChange findNextWrong)

/-- 'foolscaplaw32.DiffForm': WHATEVER THE INPUT: true; the input reads as it did. -/
def diffFormSpec : ChangeSpec := { name := "diffForm", fn := fun _ => fun
  | [d1, d2] => { results := [.lit (.bool true)], args := [d1, d2] }
  | _ => none }
def diffFormRow : OpenClaim := { program := "ytabhfloclcmjnaadoor", sum := "f29a914ccca5d2e51468565a94308251859321ad0654b71d763d68f607f9512d", func := "foolscap/foolscaplaw32.DiffForm", spec := "diffForm", unfollowed := true, recurses := true, named := ["unicode/utf8.first", "unicode/utf8.acceptRanges"], apart := false, laid := [("unicode/utf8.acceptRanges", laid_unicode_utf8_acceptRanges), ("unicode/utf8.first", laid_unicode_utf8_first)] }
def DiffFormSaid : Prop := diffFormRow.holds Tryd.pinned (OpenSpec.ofChange diffFormSpec)

/-- ITS FALSE NEIGHBOUR: 'it returns false'. Refute it at one input. -/
def diffFormWrong : ChangeSpec := { name := "diffForm", fn := fun _ => fun
  | [d1, d2] => { results := [.lit (.bool false)], args := [d1, d2] }
  | _ => none }
def DiffFormWrongFalsely : Prop := diffFormRow.holds Tryd.pinned (OpenSpec.ofChange diffFormWrong)

/-- 'foolscaplaw32.DiffDoes': WHATEVER THE INPUT: true; the input reads as it did. -/
def diffDoesSpec : ChangeSpec := { name := "diffDoes", fn := fun _ => fun
  | [d1, d2] => { results := [.lit (.bool true)], args := [d1, d2] }
  | _ => none }
def diffDoesRow : OpenClaim := { program := "ytabhfloclcmjnaadoor", sum := "f29a914ccca5d2e51468565a94308251859321ad0654b71d763d68f607f9512d", func := "foolscap/foolscaplaw32.DiffDoes", spec := "diffDoes", unfollowed := true, recurses := true, named := ["unicode/utf8.first", "unicode/utf8.acceptRanges"], apart := false, laid := [("unicode/utf8.acceptRanges", laid_unicode_utf8_acceptRanges), ("unicode/utf8.first", laid_unicode_utf8_first)] }
def DiffDoesSaid : Prop := diffDoesRow.holds Tryd.pinned (OpenSpec.ofChange diffDoesSpec)

/-- ITS FALSE NEIGHBOUR: 'it returns false'. Refute it at one input. -/
def diffDoesWrong : ChangeSpec := { name := "diffDoes", fn := fun _ => fun
  | [d1, d2] => { results := [.lit (.bool false)], args := [d1, d2] }
  | _ => none }
def DiffDoesWrongFalsely : Prop := diffDoesRow.holds Tryd.pinned (OpenSpec.ofChange diffDoesWrong)

/-- 'foolscaplaw33.FindReplaces': WHATEVER THE INPUT: true; the input reads as it did. -/
def findReplacesSpec : ChangeSpec := { name := "findReplaces", fn := fun _ => fun
  | [d1, d2, d3] => { results := [.lit (.bool true)], args := [d1, d2, d3] }
  | _ => none }
def findReplacesRow : OpenClaim := { program := "ytabhfloclcmjnaadoor", sum := "f29a914ccca5d2e51468565a94308251859321ad0654b71d763d68f607f9512d", func := "foolscap/foolscaplaw33.FindReplaces", spec := "findReplaces", unfollowed := true, recurses := true, named := ["unicode/utf8.first", "unicode/utf8.acceptRanges"], apart := false, laid := [("unicode/utf8.acceptRanges", laid_unicode_utf8_acceptRanges), ("unicode/utf8.first", laid_unicode_utf8_first)] }
def FindReplacesSaid : Prop := findReplacesRow.holds Tryd.pinned (OpenSpec.ofChange findReplacesSpec)

/-- ITS FALSE NEIGHBOUR: 'it returns false'. Refute it at one input. -/
def findReplacesWrong : ChangeSpec := { name := "findReplaces", fn := fun _ => fun
  | [d1, d2, d3] => { results := [.lit (.bool false)], args := [d1, d2, d3] }
  | _ => none }
def FindReplacesWrongFalsely : Prop := findReplacesRow.holds Tryd.pinned (OpenSpec.ofChange findReplacesWrong)

/-- 'foolscaplaw32.DiffTurns': WHATEVER THE INPUT: true; the input reads as it did. -/
def diffTurnsSpec : ChangeSpec := { name := "diffTurns", fn := fun _ => fun
  | [d1, d2] => { results := [.lit (.bool true)], args := [d1, d2] }
  | _ => none }
def diffTurnsRow : OpenClaim := { program := "ytabhfloclcmjnaadoor", sum := "f29a914ccca5d2e51468565a94308251859321ad0654b71d763d68f607f9512d", func := "foolscap/foolscaplaw32.DiffTurns", spec := "diffTurns", unfollowed := true, recurses := true, named := ["unicode/utf8.first", "unicode/utf8.acceptRanges"], apart := false, laid := [("unicode/utf8.acceptRanges", laid_unicode_utf8_acceptRanges), ("unicode/utf8.first", laid_unicode_utf8_first)] }
def DiffTurnsSaid : Prop := diffTurnsRow.holds Tryd.pinned (OpenSpec.ofChange diffTurnsSpec)

/-- ITS FALSE NEIGHBOUR: 'it returns false'. Refute it at one input. -/
def diffTurnsWrong : ChangeSpec := { name := "diffTurns", fn := fun _ => fun
  | [d1, d2] => { results := [.lit (.bool false)], args := [d1, d2] }
  | _ => none }
def DiffTurnsWrongFalsely : Prop := diffTurnsRow.holds Tryd.pinned (OpenSpec.ofChange diffTurnsWrong)

/-- 'foolscaplaw32.DiffApplies': WHATEVER THE INPUT: true; the input reads as it did. -/
def diffAppliesSpec : ChangeSpec := { name := "diffApplies", fn := fun _ => fun
  | [d1, d2] => { results := [.lit (.bool true)], args := [d1, d2] }
  | _ => none }
def diffAppliesRow : OpenClaim := { program := "ytabhfloclcmjnaadoor", sum := "f29a914ccca5d2e51468565a94308251859321ad0654b71d763d68f607f9512d", func := "foolscap/foolscaplaw32.DiffApplies", spec := "diffApplies", unfollowed := true, recurses := true, named := ["unicode/utf8.first", "unicode/utf8.acceptRanges"], apart := false, laid := [("unicode/utf8.acceptRanges", laid_unicode_utf8_acceptRanges), ("unicode/utf8.first", laid_unicode_utf8_first)] }
def DiffAppliesSaid : Prop := diffAppliesRow.holds Tryd.pinned (OpenSpec.ofChange diffAppliesSpec)

/-- ITS FALSE NEIGHBOUR: 'it returns false'. Refute it at one input. -/
def diffAppliesWrong : ChangeSpec := { name := "diffApplies", fn := fun _ => fun
  | [d1, d2] => { results := [.lit (.bool false)], args := [d1, d2] }
  | _ => none }
def DiffAppliesWrongFalsely : Prop := diffAppliesRow.holds Tryd.pinned (OpenSpec.ofChange diffAppliesWrong)

/- THE SECOND FORM. 'bulk': how many values and letters a reading holds, each counted each time it is reached (what is shared counts as often as it is met; a slice's spare places count too). A statement '..UptoSaid' is the law's where the arguments, and the package variables that the reading takes, are together of bulk at most 1048576: NARROWER than '..Said'. Prove '..Said' where nothing that the law and all that it calls make is longer than what came in: it says more and counts as full. Else prove '..UptoSaid'. A law counts once. -/
mutual
def uptoBulk {H : Type} : DataW H → Nat
  | .lit (.string bytes) => bytes.length + 1
  | .lit _ => 1
  | .nil => 1
  | .ptr d => uptoBulk d + 1
  | .slice elems spare => uptoBulkAll elems + uptoBulkAll spare + 1
  | .agg parts => uptoBulkAll parts + 1
  | .iface _ d => uptoBulk d + 1
  | .map entries => uptoBulkEntries entries + 1
  | .held _ => 1
def uptoBulkAll {H : Type} : List (DataW H) → Nat
  | [] => 0
  | d :: r => uptoBulk d + uptoBulkAll r
def uptoBulkEntries {H : Type} : List (Lit × DataW H) → Nat
  | [] => 0
  | x :: r => uptoBulkEntry x + uptoBulkEntries r
def uptoBulkEntry {H : Type} : Lit × DataW H → Nat
  | (.string bytes, d) => bytes.length + uptoBulk d + 1
  | (_, d) => uptoBulk d + 1
 end
def uptoSmall : (H : Type) → List (DataW H) → Bool := fun _ ds => decide (uptoBulkAll ds ≤ 1048576)
def OpenSpec.upto (s : _root_.Go.ChangeSpec) : _root_.Go.OpenSpec := { _root_.Go.OpenSpec.ofChange s with cond := some uptoSmall }

/-- 'foolscaplaw33.FindAll', WHERE WHAT IT READS IS OF BULK AT MOST 1048576: true; the input reads as it did. -/
def findAllUptoRow : OpenClaim := { program := "ytabhfloclcmjnaadoor", sum := "f29a914ccca5d2e51468565a94308251859321ad0654b71d763d68f607f9512d", func := "foolscap/foolscaplaw33.FindAll", spec := "findAll", unfollowed := true, recurses := true, named := ["unicode/utf8.first", "unicode/utf8.acceptRanges"], apart := false, laid := [("unicode/utf8.acceptRanges", laid_unicode_utf8_acceptRanges), ("unicode/utf8.first", laid_unicode_utf8_first)], narrowed := true }
def FindAllUptoSaid : Prop := findAllUptoRow.holds Tryd.pinned (OpenSpec.upto findAllSpec)

/-- 'foolscaplaw33.FindMisses', WHERE WHAT IT READS IS OF BULK AT MOST 1048576: true; the input reads as it did. -/
def findMissesUptoRow : OpenClaim := { program := "ytabhfloclcmjnaadoor", sum := "f29a914ccca5d2e51468565a94308251859321ad0654b71d763d68f607f9512d", func := "foolscap/foolscaplaw33.FindMisses", spec := "findMisses", unfollowed := true, recurses := true, named := ["unicode/utf8.first", "unicode/utf8.acceptRanges"], apart := false, laid := [("unicode/utf8.acceptRanges", laid_unicode_utf8_acceptRanges), ("unicode/utf8.first", laid_unicode_utf8_first)], narrowed := true }
def FindMissesUptoSaid : Prop := findMissesUptoRow.holds Tryd.pinned (OpenSpec.upto findMissesSpec)

/-- 'foolscaplaw33.FindNext', WHERE WHAT IT READS IS OF BULK AT MOST 1048576: true; the input reads as it did. -/
def findNextUptoRow : OpenClaim := { program := "ytabhfloclcmjnaadoor", sum := "f29a914ccca5d2e51468565a94308251859321ad0654b71d763d68f607f9512d", func := "foolscap/foolscaplaw33.FindNext", spec := "findNext", unfollowed := true, recurses := true, named := ["unicode/utf8.first", "unicode/utf8.acceptRanges"], apart := false, laid := [("unicode/utf8.acceptRanges", laid_unicode_utf8_acceptRanges), ("unicode/utf8.first", laid_unicode_utf8_first)], narrowed := true }
def FindNextUptoSaid : Prop := findNextUptoRow.holds Tryd.pinned (OpenSpec.upto findNextSpec)

/-- 'foolscaplaw32.DiffForm', WHERE WHAT IT READS IS OF BULK AT MOST 1048576: true; the input reads as it did. -/
def diffFormUptoRow : OpenClaim := { program := "ytabhfloclcmjnaadoor", sum := "f29a914ccca5d2e51468565a94308251859321ad0654b71d763d68f607f9512d", func := "foolscap/foolscaplaw32.DiffForm", spec := "diffForm", unfollowed := true, recurses := true, named := ["unicode/utf8.first", "unicode/utf8.acceptRanges"], apart := false, laid := [("unicode/utf8.acceptRanges", laid_unicode_utf8_acceptRanges), ("unicode/utf8.first", laid_unicode_utf8_first)], narrowed := true }
def DiffFormUptoSaid : Prop := diffFormUptoRow.holds Tryd.pinned (OpenSpec.upto diffFormSpec)

/-- 'foolscaplaw32.DiffDoes', WHERE WHAT IT READS IS OF BULK AT MOST 1048576: true; the input reads as it did. -/
def diffDoesUptoRow : OpenClaim := { program := "ytabhfloclcmjnaadoor", sum := "f29a914ccca5d2e51468565a94308251859321ad0654b71d763d68f607f9512d", func := "foolscap/foolscaplaw32.DiffDoes", spec := "diffDoes", unfollowed := true, recurses := true, named := ["unicode/utf8.first", "unicode/utf8.acceptRanges"], apart := false, laid := [("unicode/utf8.acceptRanges", laid_unicode_utf8_acceptRanges), ("unicode/utf8.first", laid_unicode_utf8_first)], narrowed := true }
def DiffDoesUptoSaid : Prop := diffDoesUptoRow.holds Tryd.pinned (OpenSpec.upto diffDoesSpec)

/-- 'foolscaplaw33.FindReplaces', WHERE WHAT IT READS IS OF BULK AT MOST 1048576: true; the input reads as it did. -/
def findReplacesUptoRow : OpenClaim := { program := "ytabhfloclcmjnaadoor", sum := "f29a914ccca5d2e51468565a94308251859321ad0654b71d763d68f607f9512d", func := "foolscap/foolscaplaw33.FindReplaces", spec := "findReplaces", unfollowed := true, recurses := true, named := ["unicode/utf8.first", "unicode/utf8.acceptRanges"], apart := false, laid := [("unicode/utf8.acceptRanges", laid_unicode_utf8_acceptRanges), ("unicode/utf8.first", laid_unicode_utf8_first)], narrowed := true }
def FindReplacesUptoSaid : Prop := findReplacesUptoRow.holds Tryd.pinned (OpenSpec.upto findReplacesSpec)

/-- 'foolscaplaw32.DiffTurns', WHERE WHAT IT READS IS OF BULK AT MOST 1048576: true; the input reads as it did. -/
def diffTurnsUptoRow : OpenClaim := { program := "ytabhfloclcmjnaadoor", sum := "f29a914ccca5d2e51468565a94308251859321ad0654b71d763d68f607f9512d", func := "foolscap/foolscaplaw32.DiffTurns", spec := "diffTurns", unfollowed := true, recurses := true, named := ["unicode/utf8.first", "unicode/utf8.acceptRanges"], apart := false, laid := [("unicode/utf8.acceptRanges", laid_unicode_utf8_acceptRanges), ("unicode/utf8.first", laid_unicode_utf8_first)], narrowed := true }
def DiffTurnsUptoSaid : Prop := diffTurnsUptoRow.holds Tryd.pinned (OpenSpec.upto diffTurnsSpec)

/-- 'foolscaplaw32.DiffApplies', WHERE WHAT IT READS IS OF BULK AT MOST 1048576: true; the input reads as it did. -/
def diffAppliesUptoRow : OpenClaim := { program := "ytabhfloclcmjnaadoor", sum := "f29a914ccca5d2e51468565a94308251859321ad0654b71d763d68f607f9512d", func := "foolscap/foolscaplaw32.DiffApplies", spec := "diffApplies", unfollowed := true, recurses := true, named := ["unicode/utf8.first", "unicode/utf8.acceptRanges"], apart := false, laid := [("unicode/utf8.acceptRanges", laid_unicode_utf8_acceptRanges), ("unicode/utf8.first", laid_unicode_utf8_first)], narrowed := true }
def DiffAppliesUptoSaid : Prop := diffAppliesUptoRow.holds Tryd.pinned (OpenSpec.upto diffAppliesSpec)

end Rows
end Go.Proofs.YtabhfloclcmjnaaDoor
