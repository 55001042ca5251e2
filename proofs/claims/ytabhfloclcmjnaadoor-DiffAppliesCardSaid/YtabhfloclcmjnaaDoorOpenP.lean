/-
  Two texts as one (Lcs, OpenP): by this session, or printed. Conditions: as typed.
-/
import Derived.KernelRfl
import Derived.Test.YtabhfloclcmjnaaDoorSplit
import Derived.Test.YtabhfloclcmjnaaDoorRows
import Derived.Test.YtabhfloclcmjnaaDoorExt
import Derived.Test.YtabhfloclcmjnaaDoorShelf
import Derived.Lib.LaidU8T
import Derived.Deep.DeepHandedRow
import Derived.Test.YtabhfloclcmjnaaDoorPx0
namespace Go.Proofs.YtabhfloclcmjnaaDoor.Lcs
/-- How long the longest is: from the front. -/
def S : List Int → List Int → Nat
  | [], _ => 0
  | _ :: _, [] => 0
  | x :: a, y :: b => if x = y then S a b + 1 else max (S a (y :: b)) (S (x :: a) b)
termination_by a b => a.length + b.length
theorem S_nil (a : List Int) : S a [] = 0 := by cases a <;> simp [S]
theorem S_most : ∀ (a b c : List Int), c.Sublist a → c.Sublist b → c.length ≤ S a b
  | [], b, c, h, _ => by rw [List.sublist_nil.1 h]; simp
  | x :: a, [], c, _, h => by rw [List.sublist_nil.1 h]; simp
  | x :: a, y :: b, c, h1, h2 => by
    rw [S]
    by_cases e : x = y
    · subst e
      rw [if_pos rfl]
      cases c with
      | nil => simp
      | cons z c =>
        have k1 : c.Sublist a := by
          cases h1 with
          | cons _ h => exact (List.sublist_cons_self z c).trans h
          | cons_cons _ h => exact h
        have k2 : c.Sublist b := by
          cases h2 with
          | cons _ h => exact (List.sublist_cons_self z c).trans h
          | cons_cons _ h => exact h
        have := S_most a b c k1 k2
        simp only [List.length_cons]
        omega
    · rw [if_neg e]
      cases h1 with
      | cons _ h => have := S_most a (y :: b) c h h2; omega
      | cons_cons _ h =>
        cases h2 with
        | cons _ h' => have := S_most (x :: a) b _ (List.Sublist.cons_cons x h) h'; omega
        | cons_cons _ h' => exact absurd rfl e
termination_by a b => a.length + b.length
theorem S_some : ∀ (a b : List Int), ∃ c : List Int, c.Sublist a ∧ c.Sublist b ∧ c.length = S a b
  | [], b => ⟨[], List.Sublist.refl _, List.nil_sublist _, by simp [S]⟩
  | x :: a, [] => ⟨[], List.nil_sublist _, List.Sublist.refl _, by simp [S]⟩
  | x :: a, y :: b => by
    rw [S]
    by_cases e : x = y
    · subst e
      rw [if_pos rfl]
      obtain ⟨c, h1, h2, h3⟩ := S_some a b
      exact ⟨x :: c, h1.cons_cons x, h2.cons_cons x, by simp [h3]⟩
    · rw [if_neg e]
      by_cases h : S a (y :: b) ≤ S (x :: a) b
      · obtain ⟨c, h1, h2, h3⟩ := S_some (x :: a) b
        exact ⟨c, h1, h2.cons y, by omega⟩
      · obtain ⟨c, h1, h2, h3⟩ := S_some a (y :: b)
        exact ⟨c, h1.cons x, h2, by omega⟩
termination_by a b => a.length + b.length
theorem S_symm (a b : List Int) : S a b = S b a := by
  obtain ⟨c, h1, h2, h3⟩ := S_some a b
  obtain ⟨d, k1, k2, k3⟩ := S_some b a
  have := S_most b a c h2 h1
  have := S_most a b d k2 k1
  omega
theorem S_reverse (a b : List Int) : S a.reverse b.reverse = S a b := by
  obtain ⟨c, h1, h2, h3⟩ := S_some a b
  obtain ⟨d, k1, k2, k3⟩ := S_some a.reverse b.reverse
  have := S_most a.reverse b.reverse c.reverse h1.reverse h2.reverse
  have e1 : d.reverse.Sublist a := by have := k1.reverse; rwa [List.reverse_reverse] at this
  have e2 : d.reverse.Sublist b := by have := k2.reverse; rwa [List.reverse_reverse] at this
  have := S_most a b d.reverse e1 e2
  simp only [List.length_reverse] at *
  omega
theorem S_le_left (a b : List Int) : S a b ≤ a.length := by
  obtain ⟨c, h1, _, h3⟩ := S_some a b
  have := h1.length_le
  omega
theorem S_le_right (a b : List Int) : S a b ≤ b.length := by rw [S_symm]; exact S_le_left b a
/-- The cost, as the table has it: from the front, equal runes kept. -/
def C : List Int → List Int → Nat
  | [], b => b.length
  | x :: a, [] => (x :: a).length
  | x :: a, y :: b => if x = y then C a b else if C a (y :: b) ≤ C (x :: a) b then C a (y :: b) + 1 else C (x :: a) b + 1
termination_by a b => a.length + b.length
theorem C_S : ∀ a b : List Int, C a b + 2 * S a b = a.length + b.length
  | [], b => by simp [C, S]
  | x :: a, [] => by simp [C, S]
  | x :: a, y :: b => by
    rw [C, S]
    by_cases e : x = y
    · rw [if_pos e, if_pos e]
      have := C_S a b
      simp only [List.length_cons]
      omega
    · rw [if_neg e, if_neg e]
      have h1 := C_S a (y :: b)
      have h2 := C_S (x :: a) b
      simp only [List.length_cons] at *
      split <;> omega
termination_by a b => a.length + b.length
theorem C_symm (a b : List Int) : C a b = C b a := by
  have h1 := C_S a b
  have h2 := C_S b a
  have h3 := S_symm a b
  omega
theorem C_self (a : List Int) : C a a = 0 := by
  induction a with
  | nil => simp [C]
  | cons x a ih => rw [C, if_pos rfl]; exact ih
/-- What the document reckons: from the back, over beginnings. -/
theorem S_step (x y : Int) (a b : List Int) : S (a ++ [x]).reverse (b ++ [y]).reverse = if x = y then S a.reverse b.reverse + 1 else max (S a.reverse (b ++ [y]).reverse) (S (a ++ [x]).reverse b.reverse) := by
  rw [List.reverse_append, List.reverse_append]
  simp only [List.reverse_cons, List.reverse_nil, List.nil_append, List.singleton_append]
  rw [S]
end Go.Proofs.YtabhfloclcmjnaaDoor.Lcs
namespace Go.Proofs.YtabhfloclcmjnaaDoor.X
open Go Go.RowKit Go.Shelf Go.Proofs.YtabhfloclcmjnaaDoorW.PrintWords
set_option linter.unusedVariables false
theorem info_int : (Tryd.prog.info? 3).map (fun i => (i.zero, i.size, i.bytes)) = some (some (.int .i64 0), 1, 8) := by kernel_rfl
/-- The cells of a row of whole numbers. -/
theorem R_cells {k : IntKind} {e base g cap n : Nat} {ok : Nat → Prop} {W : World} {xs : List Int} (h : Kd.R (Kd.int k) e W base ok (.slice (some ⟨g, 0, none⟩) n cap) xs) (i : Nat) (hi : i < xs.length) :
    W.cell? ⟨g, i, none⟩ = some (.int k (xs.getD i 0)) := by
  obtain ⟨rfl, _, hc⟩ := Kd.R_reads' h
  obtain ⟨ad, c, ha, _, hk, hcell⟩ := Kd.C_get hc 0 (i : Int) (by omega) (by omega)
  obtain rfl := Option.some.inj ha
  have hk2 : c = [.int k (xs.getD i 0)] := by rw [Int.toNat_natCast] at hk; exact hk
  have h3 := hcell 0 (.int k (xs.getD i 0)) (by rw [hk2]; rfl)
  have e1 : (Kd.int k).sz = 1 := rfl
  rw [e1] at h3
  rw [Int.toNat_natCast, Nat.mul_one, Nat.add_zero] at h3
  have e2 : (Addr.add ⟨g, 0, none⟩ i) = ⟨g, i, none⟩ := by
    unfold Addr.add
    split
    · rename_i h; subst h; rfl
    · simp
  rwa [e2] at h3

theorem R_frozen {k : IntKind} {e base g cap n : Nat} {ok : Nat → Prop} {W : World} {xs : List Int} (h : Kd.R (Kd.int k) e W base ok (.slice (some ⟨g, 0, none⟩) n cap) xs) (hn : 0 < xs.length) (i : Nat) :
    W.frozen? ⟨g, i, none⟩ = false := by
  obtain ⟨g', c', he, _, _, cl, hcl⟩ := Kd.R_form h hn
  injection he with e1
  injection e1 with e2
  injection e2 with e3
  subst e3
  exact blk_frozen hcl i
end Go.Proofs.YtabhfloclcmjnaaDoor.X
namespace Go.Proofs.YtabhfloclcmjnaaDoor.X
open Go Go.RowKit Go.Shelf Go.Lib
set_option maxRecDepth 100000

theorem firstSame : (Rows.laid_unicode_utf8_first : DataW Unit) = firstData := by kernel_rfl
theorem acceptSame : (Rows.laid_unicode_utf8_acceptRanges : DataW Unit) = acceptData := by kernel_rfl
theorem u8extra : U8Extra Tryd.prog Tryd.lays260_ren := {
  n3 := by kernel_rfl
  n4 := by kernel_rfl
  y3 := by kernel_rfl
  y4 := by kernel_rfl
  c5 := by kernel_rfl
  c119 := by kernel_rfl
  c138 := by kernel_rfl }
/-- What the rows' list gives. -/
theorem tabs_of_laid {W : World} (h : laidMetH Tryd.prog [("unicode/utf8.acceptRanges", Rows.laid_unicode_utf8_acceptRanges), ("unicode/utf8.first", Rows.laid_unicode_utf8_first)] W) : XAmb W := by
  rw [firstSame, acceptSame] at h
  have h1 : laidMet Tryd.prog [("unicode/utf8.acceptRanges", acceptData), ("unicode/utf8.first", firstData)] W := h
  exact utf8Tabs_of_readsT (U8Types.of260 Tryd.lays260) u8extra (laidMet.reads h1 (by simp)) (laidMet.reads h1 (by simp))

/-- A block of cells, with these in it. -/
def fillCells (cs : Array Value) : Obj → Obj
  | Obj.cells _ t f => Obj.cells cs t f
  | o => o
/-- A world that holds the two tables. -/
noncomputable def laidWorld (os : Os) : World :=
  { World.holding Tryd.prog os ⟨#[], #[], []⟩ with
    heap := ((World.holding Tryd.prog os ⟨#[], #[], []⟩).heap.modify 0 (fillCells ((List.range 256).map fun c => Value.int .u8 (firstT c)).toArray)).modify 1 (fillCells ((List.range 16).flatMap fun i => [Value.int .u8 (accLo i), Value.int .u8 (accHi i)]).toArray) }
end Go.Proofs.YtabhfloclcmjnaaDoor.X
namespace Go.Proofs.YtabhfloclcmjnaaDoor.X
open Go Go.Joins Go.ChangeShapes Go.WideShapes Go.RowKit Go.Deep Go.Proofs.YtabhfloclcmjnaaDoorW.PrintWords Go.Proofs.YtabhfloclcmjnaaDoor.P
set_option linter.unusedVariables false
section
variable {H : Type} {enc : TypeId × Value → H} {w : World} {base : Nat} {spare : Nat → Bool} {held : Bool}
theorem list2 {l : List Value} (h : l.length = 2) : ∃ a b, l = [a, b] := by
  match l, h with
  | [a, b], _ => exact ⟨a, b, rfl⟩
theorem open_rows93 {A : Option Addr} {len cap : Nat} {d : DataW H} {p : List MemPlace} (h : DataW.Trod enc Tryd.prog w base spare held 62 (.slice A len cap) d p) :
    ∃ l : List S93, l.length = len ∧ len ≤ cap ∧ Kd.C k93 w A l.length l := by
  obtain ⟨fuel, hf⟩ := h
  rcases open_slice Tryd.underlying62 hf with ⟨hc, _⟩ | ⟨a, len', cap', m, n, D, Pl, hcs, hb, hl, hm, hmm, hx, hi⟩
  · simp only [Value.cells, List.cons.injEq, Value.slice.injEq, and_true] at hc
    obtain ⟨rfl, rfl, rfl⟩ := hc
    exact ⟨[], rfl, Nat.le_refl _, rfl, by simp, fun h => absurd h (by simp)⟩
  · simp only [Value.cells, List.cons.injEq, Value.slice.injEq, and_true] at hcs
    obtain ⟨rfl, rfl, rfl⟩ := hcs
    have hlm : len ≤ m := by rw [hmm]; split <;> omega
    have hall : ∀ i, ∃ x : S93, i < len → ∀ (j : Nat) (u : Value), [Value.int .i64 x.f0, .string x.f1][j]? = some u → w.cell? (a.add (i * 2 + j)) = some u := by
      intro i
      by_cases hil : i < len
      · obtain ⟨cs', hc, ht'⟩ := hi i (by omega)
        have hC : Tryd.prog.cellsOf 93 = 2 := by kernel_rfl
        rw [hC] at hc
        obtain ⟨_, hcl, hat⟩ := World.cells?_some hc
        obtain ⟨xs, n', _, _, _, hlen, hg⟩ := DataW.trod_struct Tryd.underlying93 ht'
        obtain ⟨c0, c1, rfl⟩ := list2 hcl
        ·
          have hr : ReadsF enc Tryd.prog w base spare held n' _ [c0, c1] xs := ⟨hlen, hg⟩
          obtain ⟨x0, rfl, _⟩ := field_int (by kernel_rfl) hr 0 _ rfl Tryd.underlying3 rfl
          obtain ⟨x1, rfl, _⟩ := field_string (by kernel_rfl) hr 1 _ rfl Tryd.underlying9 rfl
          refine ⟨⟨x0, x1⟩, fun _ j u hj => ?_⟩
          have hj3 : j < 2 := by have := (List.getElem?_eq_some_iff.1 hj).1; simpa using this
          have := hat j hj3
          rw [← Go.Deep.add_add]
          rw [this]
          exact hj
      · exact ⟨z93, fun h => absurd h hil⟩
    obtain ⟨f, hf'⟩ := Classical.axiomOfChoice hall
    refine ⟨(List.range len).map f, by simp, hl, ?_⟩
    rw [List.length_map, List.length_range]
    have hcm : cap ≤ 9223372036854775807 := by simpa [maxLen] using hm
    refine ⟨by simp, by omega, fun _ => ⟨a, rfl, fun j x hj => ?_⟩⟩
    obtain ⟨hjl, hx'⟩ := List.getElem?_eq_some_iff.1 hj
    rw [List.length_map, List.length_range] at hjl
    simp only [List.getElem_map, List.getElem_range] at hx'
    subst hx'
    exact ⟨_, rfl, k93_mk w (f j), fun i u hu => hf' j hjl i u hu⟩
end
end Go.Proofs.YtabhfloclcmjnaaDoor.X
