/-
  Two texts as one (Gap4, RefL): by this session, or printed. Conditions: as typed.
-/
import Derived.Test.YtfhnepihbofabaaDoorGap3
import Derived.Test.YtfhnepihbofabaaDoorRows
import Derived.Test.YtfhnepihbofabaaDoorExt
import Derived.Test.YtfhnepihbofabaaDoorShelf
import Derived.Lib.LaidU8T
import Derived.Deep.DeepHandedRow
import Derived.KernelRfl
import Derived.Test.YtfhnepihbofabaaDoorRef1
import Derived.Test.YtfhnepihbofabaaDoorPx3
namespace Go.Proofs.YtfhnepihbofabaaDoor.X
open Go Go.RowKit Go.Proofs.YtfhnepihbofabaaDoorW.PrintWords
set_option linter.unusedVariables false
set_option maxRecDepth 100000 in
set_option maxHeartbeats 4000000 in
theorem run_z {W : World} {X : Nat → Prop} {g m : Nat} {A B ah be : List Int} (h : Zip W X g A m B ah be) (hb : A.length + m + B.length ≤ 1000000) (at_ n : Int) :
    Calls Tryd.prog 38 #[.pointer (some ⟨g, 0, none⟩), .int .i64 at_, .int .i64 n] W fun e w' => e = .returned (.bool (decide (0 ≤ at_ ∧ at_ ≤ ((A.length + B.length : Nat) : Int) ∧ 0 ≤ n ∧ n ≤ ((A.length + B.length : Nat) : Int) - at_))) ∧ ∃ q, w' = W.drewN q := by
  obtain ⟨s, hs⟩ : ∃ s, A.length + B.length = s := ⟨_, rfl⟩
  have hL : ∀ q, Calls Tryd.prog 19 #[.pointer (some ⟨g, 0, none⟩)] (W.drewN q) fun e w' => e = .returned (.int .i64 (s : Int)) ∧ ∃ m, w' = (W.drewN q).drewN m := fun q => hs ▸ len_z (h.drewN q) hb
  have hL0 := hL 0
  have hs2 : s ≤ 1000000 := by omega
  rw [hs]
  clear h hb hs
  by_cases h1 : 0 ≤ at_
  · by_cases h2 : at_ ≤ (s : Int)
    · by_cases h3 : 0 ≤ n
      · have e1 : wrap64 ((s : Int) - at_) = (s : Int) - at_ := by unfold wrap64; omega
        have hd : decide (0 ≤ at_ ∧ at_ ≤ (s : Int) ∧ 0 ≤ n ∧ n ≤ (s : Int) - at_) = decide (n ≤ (s : Int) - at_) := by simp [h1, h2, h3]
        rw [hd]
        have d1 : decide (0 ≤ at_) = true := decide_eq_true h1
        have d2 : decide (at_ ≤ (s : Int)) = true := decide_eq_true h2
        have d3 : decide (0 ≤ n) = true := decide_eq_true h3
        clear h1 h2 h3 hd
        go_enter Tryd.func38, Tryd.ntmps38
        go_wp2_with (go_at_call 19; refine Calls.mono (by first | exact hL0 | exact hL _) ?_; rintro e w' ⟨rfl, q, rfl⟩)
        go_ret
        exact ⟨rfl, _, rfl⟩
      · have hd : decide (0 ≤ at_ ∧ at_ ≤ (s : Int) ∧ 0 ≤ n ∧ n ≤ (s : Int) - at_) = false := by simp [h3]
        rw [hd]
        have d1 : decide (0 ≤ at_) = true := decide_eq_true h1
        have d2 : decide (at_ ≤ (s : Int)) = true := decide_eq_true h2
        have d3 : decide (0 ≤ n) = false := decide_eq_false h3
        clear h1 h2 h3 hd
        go_enter Tryd.func38, Tryd.ntmps38
        go_wp2_with (go_at_call 19; refine Calls.mono (by first | exact hL0 | exact hL _) ?_; rintro e w' ⟨rfl, q, rfl⟩)
        go_ret
        exact ⟨rfl, _, rfl⟩
    · have hd : decide (0 ≤ at_ ∧ at_ ≤ (s : Int) ∧ 0 ≤ n ∧ n ≤ (s : Int) - at_) = false := by simp [h2]
      rw [hd]
      have d1 : decide (0 ≤ at_) = true := decide_eq_true h1
      have d2 : decide (at_ ≤ (s : Int)) = false := decide_eq_false h2
      clear h1 h2 hd
      go_enter Tryd.func38, Tryd.ntmps38
      go_wp2_with (go_at_call 19; refine Calls.mono (by first | exact hL0 | exact hL _) ?_; rintro e w' ⟨rfl, q, rfl⟩)
      go_ret
      exact ⟨rfl, _, rfl⟩
  · have hd : decide (0 ≤ at_ ∧ at_ ≤ (s : Int) ∧ 0 ≤ n ∧ n ≤ (s : Int) - at_) = false := by simp [h1]
    rw [hd]
    have d1 : decide (0 ≤ at_) = false := decide_eq_false h1
    clear h1 hd
    go_enter Tryd.func38, Tryd.ntmps38
    go_wp2_with (go_at_call 19; refine Calls.mono (by first | exact hL0 | exact hL _) ?_; rintro e w' ⟨rfl, q, rfl⟩)
    go_ret
    exact ⟨rfl, 0, rfl⟩
end Go.Proofs.YtfhnepihbofabaaDoor.X
namespace Go.Proofs.YtfhnepihbofabaaDoor.X
open Go Go.RowKit Go.Shelf Go.Lib
set_option maxRecDepth 100000

theorem firstSame : (Rows.laid_unicode_utf8_first : DataW Unit) = firstData := by kernel_rfl
theorem acceptSame : (Rows.laid_unicode_utf8_acceptRanges : DataW Unit) = acceptData := by kernel_rfl
theorem u8extra : U8Extra Tryd.prog Tryd.lays260_ren := {
  n3 := by kernel_rfl
  n4 := by kernel_rfl
  y3 := by kernel_rfl
  y4 := by kernel_rfl
  c5 := by kernel_rfl
  c119 := by kernel_rfl
  c138 := by kernel_rfl }
/-- What the rows' list gives. -/
theorem tabs_of_laid {W : World} (h : laidMetH Tryd.prog [("unicode/utf8.acceptRanges", Rows.laid_unicode_utf8_acceptRanges), ("unicode/utf8.first", Rows.laid_unicode_utf8_first)] W) : XAmb W := by
  rw [firstSame, acceptSame] at h
  have h1 : laidMet Tryd.prog [("unicode/utf8.acceptRanges", acceptData), ("unicode/utf8.first", firstData)] W := h
  exact utf8Tabs_of_readsT (U8Types.of260 Tryd.lays260) u8extra (laidMet.reads h1 (by simp)) (laidMet.reads h1 (by simp))

/-- A block of cells, with these in it. -/
def fillCells (cs : Array Value) : Obj → Obj
  | Obj.cells _ t f => Obj.cells cs t f
  | o => o
/-- A world that holds the two tables. -/
noncomputable def laidWorld (os : Os) : World :=
  { World.holding Tryd.prog os ⟨#[], #[], []⟩ with
    heap := ((World.holding Tryd.prog os ⟨#[], #[], []⟩).heap.modify 0 (fillCells ((List.range 256).map fun c => Value.int .u8 (firstT c)).toArray)).modify 1 (fillCells ((List.range 16).flatMap fun i => [Value.int .u8 (accLo i), Value.int .u8 (accHi i)]).toArray) }
end Go.Proofs.YtfhnepihbofabaaDoor.X
namespace Go.Proofs.YtfhnepihbofabaaDoor.X
open Go Go.RowKit Go.Shelf Go.Proofs.YtfhnepihbofabaaDoorW.PrintWords Go.Proofs.YtfhnepihbofabaaDoor.P
set_option linter.unusedVariables false
theorem len_ev (s : ByteArray) (hs : s.size ≤ 35184372088831) : Ev (fun k => foolscapref01_Len.f k s) (lenU s) := by
  obtain ⟨K, hK⟩ := split_ev s hs
  refine ⟨K, fun k hk => ?_⟩
  have e := hK k hk
  unfold foolscapref01_Len.f
  dsimp only at e ⊢
  rw [e, Option.bind_some]
  cases ht : textOf s with
  | none => rw [lenU_of_none ht]; rfl
  | some l => rw [lenU_of_some ht]; rfl
theorem stp_len (s : ByteArray) : ∀ f pos, pos ≤ s.size → (stp s f pos).length ≤ s.size - pos
  | 0, pos, _ => by simp [stp]
  | f + 1, pos, hp => by
    simp only [stp]
    split
    · rename_i h
      split
      · simp; omega
      · have h1 := decode_pos s pos h
        have h2 := decode_le s pos h
        have := stp_len s f (pos + (Utf8.decode s pos).2) h2
        simp only [List.length_cons]
        omega
    · simp
theorem text_len {s : ByteArray} {l : List Int} (h : textOf s = some l) : l.length ≤ s.size := by
  unfold textOf at h
  split at h
  · obtain rfl := Option.some.inj h
    have := stp_len s s.size 0 (Nat.zero_le _)
    simpa using this
  · cases h
end Go.Proofs.YtfhnepihbofabaaDoor.X
