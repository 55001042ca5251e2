/-
  A slice of changes (two integers and a string each), handed in, read as a list: by this session. Conditions: as typed.
-/
import Derived.Test.YtabhfloclcmjnaaDoorOpen
import Derived.Test.YtabhfloclcmjnaaDoorPx0
namespace Go.Proofs.YtabhfloclcmjnaaDoor.X
open Go Go.Joins Go.ChangeShapes Go.WideShapes Go.RowKit Go.Deep Go.Proofs.YtabhfloclcmjnaaDoorW.PrintWords Go.Proofs.YtabhfloclcmjnaaDoor.P
set_option linter.unusedVariables false
section
variable {H : Type} {enc : TypeId × Value → H} {w : World} {base : Nat} {spare : Nat → Bool} {held : Bool}
theorem list3 {l : List Value} (h : l.length = 3) : ∃ a b c, l = [a, b, c] := by
  match l, h with
  | [a, b, c], _ => exact ⟨a, b, c, rfl⟩
theorem open_rows45 {A : Option Addr} {len cap : Nat} {d : DataW H} {p : List MemPlace} (h : DataW.Trod enc Tryd.prog w base spare held 42 (.slice A len cap) d p) :
    ∃ l : List S45, l.length = len ∧ len ≤ cap ∧ Kd.C k45 w A l.length l := by
  obtain ⟨fuel, hf⟩ := h
  rcases open_slice Tryd.underlying42 hf with ⟨hc, _⟩ | ⟨a, len', cap', m, n, D, Pl, hcs, hb, hl, hm, hmm, hx, hi⟩
  · simp only [Value.cells, List.cons.injEq, Value.slice.injEq, and_true] at hc
    obtain ⟨rfl, rfl, rfl⟩ := hc
    exact ⟨[], rfl, Nat.le_refl _, rfl, by simp, fun h => absurd h (by simp)⟩
  · simp only [Value.cells, List.cons.injEq, Value.slice.injEq, and_true] at hcs
    obtain ⟨rfl, rfl, rfl⟩ := hcs
    have hlm : len ≤ m := by rw [hmm]; split <;> omega
    have hall : ∀ i, ∃ x : S45, i < len → ∀ (j : Nat) (u : Value), [Value.int .i64 x.f0, .int .i64 x.f1, .string x.f2][j]? = some u → w.cell? (a.add (i * 3 + j)) = some u := by
      intro i
      by_cases hil : i < len
      · obtain ⟨cs', hc, ht'⟩ := hi i (by omega)
        have hC : Tryd.prog.cellsOf 45 = 3 := by kernel_rfl
        rw [hC] at hc
        obtain ⟨_, hcl, hat⟩ := World.cells?_some hc
        obtain ⟨xs, n', _, _, _, hlen, hg⟩ := DataW.trod_struct Tryd.underlying45 ht'
        obtain ⟨c0, c1, c2, rfl⟩ := list3 hcl
        ·
          have hr : ReadsF enc Tryd.prog w base spare held n' _ [c0, c1, c2] xs := ⟨hlen, hg⟩
          obtain ⟨x0, rfl, _⟩ := field_int (by kernel_rfl) hr 0 _ rfl Tryd.underlying3 rfl
          obtain ⟨x1, rfl, _⟩ := field_int (by kernel_rfl) hr 1 _ rfl Tryd.underlying3 rfl
          obtain ⟨x2, rfl, _⟩ := field_string (by kernel_rfl) hr 2 _ rfl Tryd.underlying9 rfl
          refine ⟨⟨x0, x1, x2⟩, fun _ j u hj => ?_⟩
          have hj3 : j < 3 := by have := (List.getElem?_eq_some_iff.1 hj).1; simpa using this
          have := hat j hj3
          rw [← Go.Deep.add_add]
          rw [this]
          exact hj
      · exact ⟨z45, fun h => absurd h hil⟩
    obtain ⟨f, hf'⟩ := Classical.axiomOfChoice hall
    refine ⟨(List.range len).map f, by simp, hl, ?_⟩
    rw [List.length_map, List.length_range]
    have hcm : cap ≤ 9223372036854775807 := by simpa [maxLen] using hm
    refine ⟨by simp, by omega, fun _ => ⟨a, rfl, fun j x hj => ?_⟩⟩
    obtain ⟨hjl, hx'⟩ := List.getElem?_eq_some_iff.1 hj
    rw [List.length_map, List.length_range] at hjl
    simp only [List.getElem_map, List.getElem_range] at hx'
    subst hx'
    exact ⟨_, rfl, k45_mk w (f j), fun i u hu => hf' j hjl i u hu⟩
end
end Go.Proofs.YtabhfloclcmjnaaDoor.X
