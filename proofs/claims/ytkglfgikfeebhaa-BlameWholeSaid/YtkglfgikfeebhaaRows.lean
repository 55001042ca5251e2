/-
  No cell of these rows narrows 'for every input' (looked for: loops, veiled, ifaces, maps, wideKeys, modest, calm, conditions, laid).
  DERIVED. THE GIVEN ROWS OF THIS SEAT. 3 by the template 'for every input the law returns true; each argument reads behind the call as it read before'; 0 by the template 'total and deterministic' (their statements: YtkglfgikfeebhaaTotals.lean).
  GIVEN WITH THE SEED: the statements are not yours to turn. If you find one false, say at which input.
  Laid BY PROGRAM, IN A SANDBOX (cutbox-rows.mjs): the forced cells as the released guide's own fill.sh prints them over the translation ccd227baf862b0fd… (all of the seat's roots in one cut). By AI agents, Wed Nov 11 2026. No macro, syntax, notation, axiom, sorry.
-/
import Derived.Test.YtkglfgikfeebhaaChecked
import GoSem.Claim
import GoSem.ClaimJoined
import GoSem.ClaimMapViews
import Derived.JoinedTies
import Derived.KernelRfl
namespace Go.Proofs.Ytkglfgikfeebhaa
/- THE CELL 'sum', in the pinned program and in every row, IS THE sha256 OF THE DUMP (.gsa) THAT YtkglfgikfeebhaaProg.lean LOADS. Nothing in Lean hashes anything: it is a label: what it is worth is what the hold of that sum in a sandbox is worth. -/
noncomputable def Try.pinned : Pinned := { name := "ytkglfgikfeebhaa", sum := "ccd227baf862b0fddbed95815c68764f6a396faabe158c3b00439aa7b209fdb1", checked := Try.checked }
namespace Rows
def none {H : Type} : Left H := { results := [], args := [] }

/-- 'foolscaplaw30.BlameParts': WHATEVER THE INPUT: true; the input reads as it did. -/
def blamePartsSpec : ChangeSpec := { name := "blameParts", fn := fun _ => fun
  | [d1, d2] => { results := [.lit (.bool true)], args := [d1, d2] }
  | _ => none }
def blamePartsRow : OpenClaim := { program := "ytkglfgikfeebhaa", sum := "ccd227baf862b0fddbed95815c68764f6a396faabe158c3b00439aa7b209fdb1", func := "foolscap/foolscaplaw30.BlameParts", spec := "blameParts", unfollowed := true, recurses := true, plainKeys := false, apart := false }
def BlamePartsSaid : Prop := blamePartsRow.holds Try.pinned (OpenSpec.ofChange blamePartsSpec)

/-- ITS FALSE NEIGHBOUR: 'it returns false'. Refute it at one input. -/
def blamePartsWrong : ChangeSpec := { name := "blameParts", fn := fun _ => fun
  | [d1, d2] => { results := [.lit (.bool false)], args := [d1, d2] }
  | _ => none }
def BlamePartsWrongFalsely : Prop := blamePartsRow.holds Try.pinned (OpenSpec.ofChange blamePartsWrong)

/-- 'foolscaplaw30.BlameSites': WHATEVER THE INPUT: true; the input reads as it did. -/
def blameSitesSpec : ChangeSpec := { name := "blameSites", fn := fun _ => fun
  | [d1, d2] => { results := [.lit (.bool true)], args := [d1, d2] }
  | _ => none }
def blameSitesRow : OpenClaim := { program := "ytkglfgikfeebhaa", sum := "ccd227baf862b0fddbed95815c68764f6a396faabe158c3b00439aa7b209fdb1", func := "foolscap/foolscaplaw30.BlameSites", spec := "blameSites", unfollowed := true, recurses := true, plainKeys := false, apart := false }
def BlameSitesSaid : Prop := blameSitesRow.holds Try.pinned (OpenSpec.ofChange blameSitesSpec)

/-- ITS FALSE NEIGHBOUR: 'it returns false'. Refute it at one input. -/
def blameSitesWrong : ChangeSpec := { name := "blameSites", fn := fun _ => fun
  | [d1, d2] => { results := [.lit (.bool false)], args := [d1, d2] }
  | _ => none }
def BlameSitesWrongFalsely : Prop := blameSitesRow.holds Try.pinned (OpenSpec.ofChange blameSitesWrong)

/-- 'foolscaplaw30.BlameWhole': WHATEVER THE INPUT: true; the input reads as it did. -/
def blameWholeSpec : ChangeSpec := { name := "blameWhole", fn := fun _ => fun
  | [d] => { results := [.lit (.bool true)], args := [d] }
  | _ => none }
def blameWholeRow : OpenClaim := { program := "ytkglfgikfeebhaa", sum := "ccd227baf862b0fddbed95815c68764f6a396faabe158c3b00439aa7b209fdb1", func := "foolscap/foolscaplaw30.BlameWhole", spec := "blameWhole", unfollowed := true, recurses := true, plainKeys := false, apart := false }
def BlameWholeSaid : Prop := blameWholeRow.holds Try.pinned (OpenSpec.ofChange blameWholeSpec)

/-- ITS FALSE NEIGHBOUR: 'it returns false'. Refute it at one input. -/
def blameWholeWrong : ChangeSpec := { name := "blameWhole", fn := fun _ => fun
  | [d] => { results := [.lit (.bool false)], args := [d] }
  | _ => none }
def BlameWholeWrongFalsely : Prop := blameWholeRow.holds Try.pinned (OpenSpec.ofChange blameWholeWrong)

/- THE SECOND FORM. 'bulk': how many values and letters a reading holds, each counted each time it is reached (what is shared counts as often as it is met; a slice's spare places count too). A statement '..UptoSaid' is the law's where the arguments, and the package variables that the reading takes, are together of bulk at most 1048576: NARROWER than '..Said'. Prove '..Said' where nothing that the law and all that it calls make is longer than what came in: it says more and counts as full. Else prove '..UptoSaid'. A law counts once. -/
mutual
def uptoBulk {H : Type} : DataW H → Nat
  | .lit (.string bytes) => bytes.length + 1
  | .lit _ => 1
  | .nil => 1
  | .ptr d => uptoBulk d + 1
  | .slice elems spare => uptoBulkAll elems + uptoBulkAll spare + 1
  | .agg parts => uptoBulkAll parts + 1
  | .iface _ d => uptoBulk d + 1
  | .map entries => uptoBulkEntries entries + 1
  | .held _ => 1
def uptoBulkAll {H : Type} : List (DataW H) → Nat
  | [] => 0
  | d :: r => uptoBulk d + uptoBulkAll r
def uptoBulkEntries {H : Type} : List (Lit × DataW H) → Nat
  | [] => 0
  | x :: r => uptoBulkEntry x + uptoBulkEntries r
def uptoBulkEntry {H : Type} : Lit × DataW H → Nat
  | (.string bytes, d) => bytes.length + uptoBulk d + 1
  | (_, d) => uptoBulk d + 1
 end
def uptoSmall : (H : Type) → List (DataW H) → Bool := fun _ ds => decide (uptoBulkAll ds ≤ 1048576)
def OpenSpec.upto (s : _root_.Go.ChangeSpec) : _root_.Go.OpenSpec := { _root_.Go.OpenSpec.ofChange s with cond := some uptoSmall }

/-- 'foolscaplaw30.BlameParts', WHERE WHAT IT READS IS OF BULK AT MOST 1048576: true; the input reads as it did. -/
def blamePartsUptoRow : OpenClaim := { program := "ytkglfgikfeebhaa", sum := "ccd227baf862b0fddbed95815c68764f6a396faabe158c3b00439aa7b209fdb1", func := "foolscap/foolscaplaw30.BlameParts", spec := "blameParts", unfollowed := true, recurses := true, plainKeys := false, apart := false, narrowed := true }
def BlamePartsUptoSaid : Prop := blamePartsUptoRow.holds Try.pinned (OpenSpec.upto blamePartsSpec)

/-- 'foolscaplaw30.BlameSites', WHERE WHAT IT READS IS OF BULK AT MOST 1048576: true; the input reads as it did. -/
def blameSitesUptoRow : OpenClaim := { program := "ytkglfgikfeebhaa", sum := "ccd227baf862b0fddbed95815c68764f6a396faabe158c3b00439aa7b209fdb1", func := "foolscap/foolscaplaw30.BlameSites", spec := "blameSites", unfollowed := true, recurses := true, plainKeys := false, apart := false, narrowed := true }
def BlameSitesUptoSaid : Prop := blameSitesUptoRow.holds Try.pinned (OpenSpec.upto blameSitesSpec)

/-- 'foolscaplaw30.BlameWhole', WHERE WHAT IT READS IS OF BULK AT MOST 1048576: true; the input reads as it did. -/
def blameWholeUptoRow : OpenClaim := { program := "ytkglfgikfeebhaa", sum := "ccd227baf862b0fddbed95815c68764f6a396faabe158c3b00439aa7b209fdb1", func := "foolscap/foolscaplaw30.BlameWhole", spec := "blameWhole", unfollowed := true, recurses := true, plainKeys := false, apart := false, narrowed := true }
def BlameWholeUptoSaid : Prop := blameWholeUptoRow.holds Try.pinned (OpenSpec.upto blameWholeSpec)

end Rows
end Go.Proofs.Ytkglfgikfeebhaa
