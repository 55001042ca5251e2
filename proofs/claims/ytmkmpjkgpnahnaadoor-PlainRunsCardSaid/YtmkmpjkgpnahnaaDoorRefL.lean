/-
  Two texts as one (Open, RefL): by this session, or printed. Conditions: as typed.
-/
import Derived.Test.YtmkmpjkgpnahnaaDoorRows
import Derived.Test.YtmkmpjkgpnahnaaDoorExt
import Derived.Test.YtmkmpjkgpnahnaaDoorShelf
import Derived.Lib.LaidU8T
import Derived.Deep.DeepHandedRow
import Derived.KernelRfl
import Derived.Lib.SmallJoins
import Derived.Deep.Fields
import Derived.Deep.Slices
import Derived.ChangeSame
import Derived.Test.YtmkmpjkgpnahnaaDoorPx0
import Derived.Test.YtmkmpjkgpnahnaaDoorRef1
import Derived.Test.YtmkmpjkgpnahnaaDoorPx8
namespace Go.Proofs.YtmkmpjkgpnahnaaDoor.X
open Go Go.RowKit Go.Shelf Go.Lib
set_option maxRecDepth 100000

theorem firstSame : (Rows.laid_unicode_utf8_first : DataW Unit) = firstData := by kernel_rfl
theorem acceptSame : (Rows.laid_unicode_utf8_acceptRanges : DataW Unit) = acceptData := by kernel_rfl
theorem u8extra : U8Extra Tryd.prog Tryd.lays260_ren := {
  n3 := by kernel_rfl
  n4 := by kernel_rfl
  y3 := by kernel_rfl
  y4 := by kernel_rfl
  c5 := by kernel_rfl
  c119 := by kernel_rfl
  c138 := by kernel_rfl }
/-- What the rows' list gives. -/
theorem tabs_of_laid {W : World} (h : laidMetH Tryd.prog [("unicode/utf8.acceptRanges", Rows.laid_unicode_utf8_acceptRanges), ("unicode/utf8.first", Rows.laid_unicode_utf8_first)] W) : XAmb W := by
  rw [firstSame, acceptSame] at h
  have h1 : laidMet Tryd.prog [("unicode/utf8.acceptRanges", acceptData), ("unicode/utf8.first", firstData)] W := h
  exact utf8Tabs_of_readsT (U8Types.of260 Tryd.lays260) u8extra (laidMet.reads h1 (by simp)) (laidMet.reads h1 (by simp))

/-- A block of cells, with these in it. -/
def fillCells (cs : Array Value) : Obj → Obj
  | Obj.cells _ t f => Obj.cells cs t f
  | o => o
/-- A world that holds the two tables. -/
noncomputable def laidWorld (os : Os) : World :=
  { World.holding Tryd.prog os ⟨#[], #[], []⟩ with
    heap := ((World.holding Tryd.prog os ⟨#[], #[], []⟩).heap.modify 0 (fillCells ((List.range 256).map fun c => Value.int .u8 (firstT c)).toArray)).modify 1 (fillCells ((List.range 16).flatMap fun i => [Value.int .u8 (accLo i), Value.int .u8 (accHi i)]).toArray) }
end Go.Proofs.YtmkmpjkgpnahnaaDoor.X
namespace Go.Proofs.YtmkmpjkgpnahnaaDoor.X
open Go Go.Joins Go.ChangeShapes Go.WideShapes Go.RowKit Go.Deep
set_option linter.unusedVariables false
section
variable {H : Type} {enc : TypeId × Value → H} {P : Program} {w : World} {base : Nat} {spare : Nat → Bool} {held : Bool} {n : Nat} {fs : Array Field} {l : List Value} {xs : List (DataW H × List MemPlace)}
/-- How the fields of a struct are read. -/
def ReadsF (enc : TypeId × Value → H) (P : Program) (w : World) (base : Nat) (spare : Nat → Bool) (held : Bool) (n : Nat) (fs : Array Field) (l : List Value) (xs : List (DataW H × List MemPlace)) : Prop :=
  xs.length = fs.size ∧ ∀ (i : Nat) (f : Field), fs[i]? = some f → DataW.trod enc P w base spare held n f.type ((l.drop f.offset).take (P.cellsOf f.type)) = xs[i]?
theorem field_one (hone : oneCellFields P fs = true) (hr : ReadsF enc P w base spare held n fs l xs) (j : Nat) (f : Field) (hj : fs[j]? = some f) {c : Value} (hc : l[j]? = some c) : ∃ x, DataW.trod enc P w base spare held n f.type [c] = some x := by
  obtain ⟨hl, hg⟩ := hr
  obtain ⟨o, k⟩ := hone_of hone j f hj
  have g := hg j f hj
  have hjl : j < fs.size := (Array.getElem?_eq_some_iff.1 hj).1
  obtain ⟨hlt, hcv⟩ := List.getElem?_eq_some_iff.1 hc
  rw [o, k, List.drop_eq_getElem_cons hlt, hcv, List.getElem?_eq_getElem (by omega : j < xs.length)] at g
  exact ⟨_, g⟩
theorem field_int (hone : oneCellFields P fs = true) (hr : ReadsF enc P w base spare held n fs l xs) (j : Nat) (f : Field) (hj : fs[j]? = some f) {k : IntKind} (ht : P.underlying f.type = some (.int k)) {c : Value} (hc : l[j]? = some c) : ∃ x, c = .int k x ∧ (Lit.int k x).wf = true := by
  obtain ⟨x, hx⟩ := field_one hone hr j f hj hc
  obtain ⟨a, e, _, hw⟩ := DataW.trod_int ht hx
  exact ⟨a, by simpa using e, hw⟩
theorem field_string (hone : oneCellFields P fs = true) (hr : ReadsF enc P w base spare held n fs l xs) (j : Nat) (f : Field) (hj : fs[j]? = some f) (ht : P.underlying f.type = some .string) {c : Value} (hc : l[j]? = some c) : ∃ x : ByteArray, c = .string x ∧ x.size ≤ maxLen := by
  obtain ⟨x, hx⟩ := field_one hone hr j f hj hc
  obtain ⟨a, e, _, hw⟩ := DataW.trod_string ht hx
  exact ⟨a, by simpa using e, hw⟩
end
end Go.Proofs.YtmkmpjkgpnahnaaDoor.X
namespace Go.Proofs.YtmkmpjkgpnahnaaDoor.P
open Go.RowKit Go.Proofs.YtmkmpjkgpnahnaaDoor.X Go.Proofs.YtmkmpjkgpnahnaaDoorW.PrintWords Go.Proofs.YtmkmpjkgpnahnaaDoorW.PrintLast Go.Proofs.YtmkmpjkgpnahnaaDoorW.PrintMore
attribute [local go_sem] max2_int min2_int max_two min_two max_three min_three max_four min_four   -- for this text's walks alone
set_option linter.unusedVariables false
set_option linter.unusedSimpArgs false

theorem eqA23 (d : Nat) (w : World) (x0 y0 : Int) (x1 y1 : Int) (x2 y2 : Int) (x3 y3 : Int) (x4 y4 : ByteArray) :
  (Op.equalIn (d + 2) 23 (.agg #[.int .i64 x0, .int .i64 x1, .int .i64 x2, .int .i64 x3, .string x4]) (.agg #[.int .i64 y0, .int .i64 y1, .int .i64 y2, .int .i64 y3, .string y4])).run Tryd.prog w = .ok (x0 == y0 && (x1 == y1 && (x2 == y2 && (x3 == y3 && (x4.toList == y4.toList))))) w := by
 refine eqA_of Tryd.underlying23 (by kernel_rfl) ?_
 refine eqf_cons (by rfl) (by go_simp; rfl) (by go_simp; rfl) (by go_simp) ?_
 refine eqf_cons (by rfl) (by go_simp; rfl) (by go_simp; rfl) (by go_simp) ?_
 refine eqf_cons (by rfl) (by go_simp; rfl) (by go_simp; rfl) (by go_simp) ?_
 refine eqf_cons (by rfl) (by go_simp; rfl) (by go_simp; rfl) (by go_simp) ?_
 exact eqf_last (by rfl) (by go_simp; rfl) (by go_simp; rfl) (by go_simp)
end Go.Proofs.YtmkmpjkgpnahnaaDoor.P
namespace Go.Proofs.YtmkmpjkgpnahnaaDoor.X
open Go Go.RowKit Go.Shelf Go.Proofs.YtmkmpjkgpnahnaaDoorW.PrintWords Go.Proofs.YtmkmpjkgpnahnaaDoor.P
set_option linter.unusedVariables false
theorem len_ev (s : ByteArray) (hs : s.size ≤ 35184372088831) : Ev (fun k => foolscapref01_Len.f k s) (lenU s) := by
  obtain ⟨K, hK⟩ := split_ev s hs
  refine ⟨K, fun k hk => ?_⟩
  have e := hK k hk
  unfold foolscapref01_Len.f
  dsimp only at e ⊢
  rw [e, Option.bind_some]
  cases ht : textOf s with
  | none => rw [lenU_of_none ht]; rfl
  | some l => rw [lenU_of_some ht]; rfl
theorem stp_len (s : ByteArray) : ∀ f pos, pos ≤ s.size → (stp s f pos).length ≤ s.size - pos
  | 0, pos, _ => by simp [stp]
  | f + 1, pos, hp => by
    simp only [stp]
    split
    · rename_i h
      split
      · simp; omega
      · have h1 := decode_pos s pos h
        have h2 := decode_le s pos h
        have := stp_len s f (pos + (Utf8.decode s pos).2) h2
        simp only [List.length_cons]
        omega
    · simp
theorem text_len {s : ByteArray} {l : List Int} (h : textOf s = some l) : l.length ≤ s.size := by
  unfold textOf at h
  split at h
  · obtain rfl := Option.some.inj h
    have := stp_len s s.size 0 (Nat.zero_le _)
    simpa using this
  · cases h
end Go.Proofs.YtmkmpjkgpnahnaaDoor.X
