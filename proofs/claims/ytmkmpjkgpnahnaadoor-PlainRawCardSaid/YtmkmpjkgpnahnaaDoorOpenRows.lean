/-
 A slice of structs of four integers and a string, handed in, read as a list: by this session. Conditions: as typed.
-/
import Derived.Test.YtmkmpjkgpnahnaaDoorPx3
import Derived.Test.YtmkmpjkgpnahnaaDoorPx4
namespace Go.Proofs.YtmkmpjkgpnahnaaDoor.X
open Go Go.Joins Go.ChangeShapes Go.WideShapes Go.RowKit Go.Deep Go.Proofs.YtmkmpjkgpnahnaaDoorW.PrintWords Go.Proofs.YtmkmpjkgpnahnaaDoor.P
set_option linter.unusedVariables false
section
variable {H : Type} {enc : TypeId × Value → H} {w : World} {base : Nat} {spare : Nat → Bool} {held : Bool}
theorem open_rows23 {A : Option Addr} {len cap : Nat} {d : DataW H} {p : List MemPlace} (h : DataW.Trod enc Tryd.prog w base spare held 26 (.slice A len cap) d p) :
  ∃ l : List S23, l.length = len ∧ len ≤ cap ∧ Kd.C k23 w A l.length l := by
 obtain ⟨fuel, hf⟩ := h
 rcases open_slice Tryd.underlying26 hf with ⟨hc, _⟩ | ⟨a, len', cap', m, n, D, Pl, hcs, hb, hl, hm, hmm, hx, hi⟩
 ·simp only [Value.cells, List.cons.injEq, Value.slice.injEq, and_true] at hc
  obtain ⟨rfl, rfl, rfl⟩ := hc
  exact ⟨[], rfl, Nat.le_refl _, rfl, by simp, fun h => absurd h (by simp)⟩
 ·simp only [Value.cells, List.cons.injEq, Value.slice.injEq, and_true] at hcs
  obtain ⟨rfl, rfl, rfl⟩ := hcs
  have hlm : len ≤ m := by rw [hmm]; split <;> omega
  have hall : ∀ i, ∃ x : S23, i < len → ∀ (j : Nat) (u : Value), [Value.int .i64 x.f0, .int .i64 x.f1, .int .i64 x.f2, .int .i64 x.f3, .string x.f4][j]? = some u → w.cell? (a.add (i * 5 + j)) = some u := by
   intro i
   by_cases hil : i < len
   ·obtain ⟨cs', hc, ht'⟩ := hi i (by omega)
    have hC : Tryd.prog.cellsOf 23 = 5 := by kernel_rfl
    rw [hC] at hc
    obtain ⟨_, hcl, hat⟩ := World.cells?_some hc
    obtain ⟨xs, n', _, _, _, hlen, hg⟩ := DataW.trod_struct Tryd.underlying23 ht'
    match cs', hcl with
    | [c0, c1, c2, c3, c4], _ =>
     have hr : ReadsF enc Tryd.prog w base spare held n' _ [c0, c1, c2, c3, c4] xs := ⟨hlen, hg⟩
     obtain ⟨x0, rfl, _⟩ := field_int (by kernel_rfl) hr 0 _ rfl Tryd.underlying3 rfl
     obtain ⟨x1, rfl, _⟩ := field_int (by kernel_rfl) hr 1 _ rfl Tryd.underlying3 rfl
     obtain ⟨x2, rfl, _⟩ := field_int (by kernel_rfl) hr 2 _ rfl Tryd.underlying3 rfl
     obtain ⟨x3, rfl, _⟩ := field_int (by kernel_rfl) hr 3 _ rfl Tryd.underlying3 rfl
     obtain ⟨x4, rfl, _⟩ := field_string (by kernel_rfl) hr 4 _ rfl Tryd.underlying9 rfl
     refine ⟨⟨x0, x1, x2, x3, x4⟩, fun _ j u hj => ?_⟩
     have hj5 : j < 5 := by have := (List.getElem?_eq_some_iff.1 hj).1; simpa using this
     have := hat j hj5
     rw [← Go.Deep.add_add]
     rw [this]
     exact hj
   ·exact ⟨z23, fun h => absurd h hil⟩
  obtain ⟨f, hf'⟩ := Classical.axiomOfChoice hall
  refine ⟨(List.range len).map f, by simp, hl, ?_⟩
  rw [List.length_map, List.length_range]
  have hcm : cap ≤ 9223372036854775807 := by simpa [maxLen] using hm
  refine ⟨by simp, by omega, fun _ => ⟨a, rfl, fun j x hj => ?_⟩⟩
  obtain ⟨hjl, hx'⟩ := List.getElem?_eq_some_iff.1 hj
  rw [List.length_map, List.length_range] at hjl
  simp only [List.getElem_map, List.getElem_range] at hx'
  subst hx'
  exact ⟨_, rfl, k23_mk w (f j), fun i u hu => hf' j hjl i u hu⟩
end
end Go.Proofs.YtmkmpjkgpnahnaaDoor.X
