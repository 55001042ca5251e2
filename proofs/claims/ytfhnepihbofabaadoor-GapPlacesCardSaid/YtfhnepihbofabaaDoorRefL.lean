/-
  Two texts as one (OpenArr, RefL): by this session, or printed. Conditions: as typed.
-/
import Derived.Laws.IdiomArrays
import Derived.Lib.SmallJoins
import Derived.Deep.Fields
import Derived.Deep.Slices
import Derived.ChangeSame
import Derived.Test.YtfhnepihbofabaaDoorRows
import Derived.Test.YtfhnepihbofabaaDoorExt
import Derived.Test.YtfhnepihbofabaaDoorShelf
import Derived.Lib.LaidU8T
import Derived.Deep.DeepHandedRow
import Derived.KernelRfl
import Derived.Test.YtfhnepihbofabaaDoorRef1
import Derived.Test.YtfhnepihbofabaaDoorPx3
namespace Go.Proofs.YtfhnepihbofabaaDoor.X
open Go Go.Joins Go.ChangeShapes Go.WideShapes Go.RowKit Go.Deep
set_option linter.unusedVariables false
theorem arr_two {H : Type} {enc : TypeId × Value → H} {P : Program} {w : World} {base : Nat} {spare : Nat → Bool} {held : Bool} {t e : TypeId} {fuel : Nat} {c0 c1 : Value} {x : DataW H × List MemPlace} (ht : P.underlying t = some (.array 2 e)) (hce : P.cellsOf e = 1)
    (h : DataW.trod enc P w base spare held fuel t [c0, c1] = some x) : ∃ y0 y1 n, DataW.trod enc P w base spare held n e [c0] = some y0 ∧ DataW.trod enc P w base spare held n e [c1] = some y1 := by
  cases fuel with
  | zero => simp [DataW.trod] at h
  | succ n =>
    unfold DataW.trod at h
    rw [ht] at h
    have r2 : List.range 2 = [0, 1] := rfl
    simp [r2, hce] at h
    obtain ⟨_, h⟩ := h
    cases h0 : DataW.trod enc P w base spare held n e [c0] with
    | none => simp [h0] at h
    | some y0 =>
      cases h1 : DataW.trod enc P w base spare held n e [c1] with
      | none => simp [h0, h1] at h
      | some y1 => exact ⟨y0, y1, n, h0, h1⟩
theorem open_arr2 {H : Type} {enc : TypeId × Value → H} {P : Program} {w : World} {base : Nat} {spare : Nat → Bool} {held : Bool} {r : Reach} {b0 : Nat} {t e : TypeId} {v : Value} {d : DataW H} {p : List MemPlace} (ht : P.underlying t = some (.array 2 e)) (hce : P.cellsOf e = 1) (hC : P.cellsOf t = 2) (te : P.underlying e = some (.int .i64))
    (hv : Value.okWide P w r b0 t v) (h : DataW.Trod enc P w base spare held t v d p) : ∃ a b : Int, v = .agg #[.int .i64 a, .int .i64 b] := by
  simp only [Value.okWide, ht] at hv
  obtain ⟨cs, rfl, hsz, _⟩ := hv
  obtain ⟨l⟩ := cs
  match l, hsz.trans hC with
  | [c0, c1], _ =>
    obtain ⟨fuel, hf⟩ := h
    obtain ⟨y0, y1, n, g0, g1⟩ := arr_two ht hce (by simpa [Value.cells] using hf)
    obtain ⟨a, e0, _⟩ := DataW.trod_int te g0
    obtain ⟨b, e1, _⟩ := DataW.trod_int te g1
    simp only [List.cons.injEq, and_true] at e0 e1
    subst e0 e1
    exact ⟨a, b, rfl⟩
theorem open_arr3 {H : Type} {enc : TypeId × Value → H} {P : Program} {w : World} {base : Nat} {spare : Nat → Bool} {held : Bool} {r : Reach} {b0 : Nat} {t e : TypeId} {v : Value} {d : DataW H} {p : List MemPlace} (ht : P.underlying t = some (.array 3 e)) (hce : P.cellsOf e = 1) (hC : P.cellsOf t = 3) (te : P.underlying e = some (.int .i64))
    (hv : Value.okWide P w r b0 t v) (h : DataW.Trod enc P w base spare held t v d p) : ∃ a b c : Int, v = .agg #[.int .i64 a, .int .i64 b, .int .i64 c] := by
  simp only [Value.okWide, ht] at hv
  obtain ⟨cs, rfl, hsz, _⟩ := hv
  obtain ⟨l⟩ := cs
  match l, hsz.trans hC with
  | [c0, c1, c2], _ =>
    obtain ⟨fuel, hf⟩ := h
    obtain ⟨y0, y1, y2, n, _, g0, g1, g2⟩ := trod_array3 ht hce (by simpa [Value.cells] using hf)
    obtain ⟨a, e0, _⟩ := DataW.trod_int te g0
    obtain ⟨b, e1, _⟩ := DataW.trod_int te g1
    obtain ⟨c, e2, _⟩ := DataW.trod_int te g2
    simp only [List.cons.injEq, and_true] at e0 e1 e2
    subst e0 e1 e2
    exact ⟨a, b, c, rfl⟩
end Go.Proofs.YtfhnepihbofabaaDoor.X
namespace Go.Proofs.YtfhnepihbofabaaDoor.X
open Go Go.RowKit Go.Shelf Go.Lib
set_option maxRecDepth 100000

theorem firstSame : (Rows.laid_unicode_utf8_first : DataW Unit) = firstData := by kernel_rfl
theorem acceptSame : (Rows.laid_unicode_utf8_acceptRanges : DataW Unit) = acceptData := by kernel_rfl
theorem u8extra : U8Extra Tryd.prog Tryd.lays260_ren := {
  n3 := by kernel_rfl
  n4 := by kernel_rfl
  y3 := by kernel_rfl
  y4 := by kernel_rfl
  c5 := by kernel_rfl
  c119 := by kernel_rfl
  c138 := by kernel_rfl }
/-- What the rows' list gives. -/
theorem tabs_of_laid {W : World} (h : laidMetH Tryd.prog [("unicode/utf8.acceptRanges", Rows.laid_unicode_utf8_acceptRanges), ("unicode/utf8.first", Rows.laid_unicode_utf8_first)] W) : XAmb W := by
  rw [firstSame, acceptSame] at h
  have h1 : laidMet Tryd.prog [("unicode/utf8.acceptRanges", acceptData), ("unicode/utf8.first", firstData)] W := h
  exact utf8Tabs_of_readsT (U8Types.of260 Tryd.lays260) u8extra (laidMet.reads h1 (by simp)) (laidMet.reads h1 (by simp))

/-- A block of cells, with these in it. -/
def fillCells (cs : Array Value) : Obj → Obj
  | Obj.cells _ t f => Obj.cells cs t f
  | o => o
/-- A world that holds the two tables. -/
noncomputable def laidWorld (os : Os) : World :=
  { World.holding Tryd.prog os ⟨#[], #[], []⟩ with
    heap := ((World.holding Tryd.prog os ⟨#[], #[], []⟩).heap.modify 0 (fillCells ((List.range 256).map fun c => Value.int .u8 (firstT c)).toArray)).modify 1 (fillCells ((List.range 16).flatMap fun i => [Value.int .u8 (accLo i), Value.int .u8 (accHi i)]).toArray) }
end Go.Proofs.YtfhnepihbofabaaDoor.X
namespace Go.Proofs.YtfhnepihbofabaaDoor.X
open Go Go.RowKit Go.Shelf Go.Proofs.YtfhnepihbofabaaDoorW.PrintWords Go.Proofs.YtfhnepihbofabaaDoor.P
set_option linter.unusedVariables false
theorem len_ev (s : ByteArray) (hs : s.size ≤ 35184372088831) : Ev (fun k => foolscapref01_Len.f k s) (lenU s) := by
  obtain ⟨K, hK⟩ := split_ev s hs
  refine ⟨K, fun k hk => ?_⟩
  have e := hK k hk
  unfold foolscapref01_Len.f
  dsimp only at e ⊢
  rw [e, Option.bind_some]
  cases ht : textOf s with
  | none => rw [lenU_of_none ht]; rfl
  | some l => rw [lenU_of_some ht]; rfl
theorem stp_len (s : ByteArray) : ∀ f pos, pos ≤ s.size → (stp s f pos).length ≤ s.size - pos
  | 0, pos, _ => by simp [stp]
  | f + 1, pos, hp => by
    simp only [stp]
    split
    · rename_i h
      split
      · simp; omega
      · have h1 := decode_pos s pos h
        have h2 := decode_le s pos h
        have := stp_len s f (pos + (Utf8.decode s pos).2) h2
        simp only [List.length_cons]
        omega
    · simp
theorem text_len {s : ByteArray} {l : List Int} (h : textOf s = some l) : l.length ≤ s.size := by
  unfold textOf at h
  split at h
  · obtain rfl := Option.some.inj h
    have := stp_len s s.size 0 (Nat.zero_le _)
    simpa using this
  · cases h
end Go.Proofs.YtfhnepihbofabaaDoor.X
