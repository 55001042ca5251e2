/-
  Two texts as one (Laid, RefL): by this session, or printed. Conditions: as typed.
-/
import Derived.Test.YtmkmpjkgpnahnaaDoorRows
import Derived.Test.YtmkmpjkgpnahnaaDoorExt
import Derived.Test.YtmkmpjkgpnahnaaDoorShelf
import Derived.Lib.LaidU8T
import Derived.Deep.DeepHandedRow
import Derived.KernelRfl
import Derived.Test.YtmkmpjkgpnahnaaDoorPx0
import Derived.Test.YtmkmpjkgpnahnaaDoorRef1
import Derived.Test.YtmkmpjkgpnahnaaDoorPx8
namespace Go.Proofs.YtmkmpjkgpnahnaaDoor.X
open Go Go.RowKit Go.Shelf Go.Lib
set_option maxRecDepth 100000

theorem firstSame : (Rows.laid_unicode_utf8_first : DataW Unit) = firstData := by kernel_rfl
theorem acceptSame : (Rows.laid_unicode_utf8_acceptRanges : DataW Unit) = acceptData := by kernel_rfl
theorem u8extra : U8Extra Tryd.prog Tryd.lays260_ren := {
 n3 := by kernel_rfl
 n4 := by kernel_rfl
 y3 := by kernel_rfl
 y4 := by kernel_rfl
 c5 := by kernel_rfl
 c119 := by kernel_rfl
 c138 := by kernel_rfl }
/-- What the rows' list gives. -/
theorem tabs_of_laid {W : World} (h : laidMetH Tryd.prog [("unicode/utf8.acceptRanges", Rows.laid_unicode_utf8_acceptRanges), ("unicode/utf8.first", Rows.laid_unicode_utf8_first)] W) : XAmb W := by
 rw [firstSame, acceptSame] at h
 have h1 : laidMet Tryd.prog [("unicode/utf8.acceptRanges", acceptData), ("unicode/utf8.first", firstData)] W := h
 exact utf8Tabs_of_readsT (U8Types.of260 Tryd.lays260) u8extra (laidMet.reads h1 (by simp)) (laidMet.reads h1 (by simp))

/-- A block of cells, with these in it. -/
def fillCells (cs : Array Value) : Obj → Obj
 | Obj.cells _ t f => Obj.cells cs t f
 | o => o
/-- A world that holds the two tables. -/
noncomputable def laidWorld (os : Os) : World :=
 { World.holding Tryd.prog os ⟨#[], #[], []⟩ with
  heap := ((World.holding Tryd.prog os ⟨#[], #[], []⟩).heap.modify 0 (fillCells ((List.range 256).map fun c => Value.int .u8 (firstT c)).toArray)).modify 1 (fillCells ((List.range 16).flatMap fun i => [Value.int .u8 (accLo i), Value.int .u8 (accHi i)]).toArray) }
end Go.Proofs.YtmkmpjkgpnahnaaDoor.X
namespace Go.Proofs.YtmkmpjkgpnahnaaDoor.P
open Go.RowKit Go.Proofs.YtmkmpjkgpnahnaaDoor.X Go.Proofs.YtmkmpjkgpnahnaaDoorW.PrintWords Go.Proofs.YtmkmpjkgpnahnaaDoorW.PrintLast Go.Proofs.YtmkmpjkgpnahnaaDoorW.PrintMore
attribute [local go_sem] max2_int min2_int max_two min_two max_three min_three max_four min_four   -- for this text's walks alone
set_option linter.unusedVariables false
set_option linter.unusedSimpArgs false

theorem eqA29 (d : Nat) (w : World) (x0 y0 : Int) (x1 y1 : Int) (x2 y2 : Int) :
  (Op.equalIn (d + 2) 29 (.agg #[.int .i64 x0, .int .i64 x1, .int .i64 x2]) (.agg #[.int .i64 y0, .int .i64 y1, .int .i64 y2])).run Tryd.prog w = .ok (x0 == y0 && (x1 == y1 && (x2 == y2))) w := by
 refine eqA_of Tryd.underlying29 (by kernel_rfl) ?_
 refine eqf_cons (by rfl) (by go_simp; rfl) (by go_simp; rfl) (by go_simp) ?_
 refine eqf_cons (by rfl) (by go_simp; rfl) (by go_simp; rfl) (by go_simp) ?_
 exact eqf_last (by rfl) (by go_simp; rfl) (by go_simp; rfl) (by go_simp)
end Go.Proofs.YtmkmpjkgpnahnaaDoor.P
namespace Go.Proofs.YtmkmpjkgpnahnaaDoor.X
open Go Go.RowKit Go.Shelf Go.Proofs.YtmkmpjkgpnahnaaDoorW.PrintWords Go.Proofs.YtmkmpjkgpnahnaaDoor.P
set_option linter.unusedVariables false
theorem len_ev (s : ByteArray) (hs : s.size ≤ 35184372088831) : Ev (fun k => foolscapref01_Len.f k s) (lenU s) := by
 obtain ⟨K, hK⟩ := split_ev s hs
 refine ⟨K, fun k hk => ?_⟩
 have e := hK k hk
 unfold foolscapref01_Len.f
 dsimp only at e ⊢
 rw [e, Option.bind_some]
 cases ht : textOf s with
 | none => rw [lenU_of_none ht]; rfl
 | some l => rw [lenU_of_some ht]; rfl
theorem stp_len (s : ByteArray) : ∀ f pos, pos ≤ s.size → (stp s f pos).length ≤ s.size - pos
 | 0, pos, _ => by simp [stp]
 | f + 1, pos, hp => by
  simp only [stp]
  split
  ·rename_i h
   split
   ·simp; omega
   ·have h1 := decode_pos s pos h
    have h2 := decode_le s pos h
    have := stp_len s f (pos + (Utf8.decode s pos).2) h2
    simp only [List.length_cons]
    omega
  ·simp
theorem text_len {s : ByteArray} {l : List Int} (h : textOf s = some l) : l.length ≤ s.size := by
 unfold textOf at h
 split at h
 ·obtain rfl := Option.some.inj h
  have := stp_len s s.size 0 (Nat.zero_le _)
  simpa using this
 ·cases h
end Go.Proofs.YtmkmpjkgpnahnaaDoor.X
