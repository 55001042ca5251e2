/-
  A slice of cells, handed in, read as a list: by this session. Conditions: as typed.
-/
import Derived.Test.YtkglfgikfeebhaaOpen
import Derived.Test.YtkglfgikfeebhaaPx0
namespace Go.Proofs.Ytkglfgikfeebhaa.X
open Go Go.Joins Go.ChangeShapes Go.WideShapes Go.RowKit Go.Deep Go.Proofs.YtkglfgikfeebhaaW.PrintWords Go.Proofs.Ytkglfgikfeebhaa.P
set_option linter.unusedVariables false
section
variable {H : Type} {enc : TypeId × Value → H} {w : World} {base : Nat} {spare : Nat → Bool} {held : Bool}
theorem list5 {l : List Value} (h : l.length = 5) : ∃ a b c d e, l = [a, b, c, d, e] := by
  match l, h with
  | [a, b, c, d, e], _ => exact ⟨a, b, c, d, e, rfl⟩
theorem open_rows46 {A : Option Addr} {len cap : Nat} {d : DataW H} {p : List MemPlace} (h : DataW.Trod enc Try.prog w base spare held 22 (.slice A len cap) d p) :
    ∃ l : List S46, l.length = len ∧ len ≤ cap ∧ Kd.C k46 w A l.length l := by
  obtain ⟨fuel, hf⟩ := h
  rcases open_slice Try.underlying22 hf with ⟨hc, _⟩ | ⟨a, len', cap', m, n, D, Pl, hcs, hb, hl, hm, hmm, hx, hi⟩
  · simp only [Value.cells, List.cons.injEq, Value.slice.injEq, and_true] at hc
    obtain ⟨rfl, rfl, rfl⟩ := hc
    exact ⟨[], rfl, Nat.le_refl _, rfl, by simp, fun h => absurd h (by simp)⟩
  · simp only [Value.cells, List.cons.injEq, Value.slice.injEq, and_true] at hcs
    obtain ⟨rfl, rfl, rfl⟩ := hcs
    have hlm : len ≤ m := by rw [hmm]; split <;> omega
    have hall : ∀ i, ∃ x : S46, i < len → ∀ (j : Nat) (u : Value), [Value.int .i64 x.f0.f0, .int .i64 x.f0.f1, .int .i64 x.f1, .int .i32 x.f2, .bool x.f3][j]? = some u → w.cell? (a.add (i * 5 + j)) = some u := by
      intro i
      by_cases hil : i < len
      · obtain ⟨cs', hc, ht'⟩ := hi i (by omega)
        have hC : Try.prog.cellsOf 46 = 5 := by kernel_rfl
        have hC2 : Try.prog.cellsOf 29 = 2 := by kernel_rfl
        have hC3 : Try.prog.cellsOf 3 = 1 := by kernel_rfl
        have hC4 : Try.prog.cellsOf 21 = 1 := by kernel_rfl
        have hC5 : Try.prog.cellsOf 4 = 1 := by kernel_rfl
        rw [hC] at hc
        obtain ⟨_, hcl, hat⟩ := World.cells?_some hc
        obtain ⟨xs, n', _, _, _, hlen, hg⟩ := DataW.trod_struct Try.underlying46 ht'
        obtain ⟨c0, c1, c2, c3, c4, rfl⟩ := list5 hcl
        have g0 : DataW.trod enc Try.prog w base spare held n' 29 (([c0, c1, c2, c3, c4].drop 0).take (Try.prog.cellsOf 29)) = xs[0]? := hg 0 _ rfl
        rw [hC2] at g0
        replace g0 : DataW.trod enc Try.prog w base spare held n' 29 [c0, c1] = xs[0]? := g0
        have g1 : DataW.trod enc Try.prog w base spare held n' 3 (([c0, c1, c2, c3, c4].drop 2).take (Try.prog.cellsOf 3)) = xs[1]? := hg 1 _ rfl
        rw [hC3] at g1
        replace g1 : DataW.trod enc Try.prog w base spare held n' 3 [c2] = xs[1]? := g1
        have g2 : DataW.trod enc Try.prog w base spare held n' 21 (([c0, c1, c2, c3, c4].drop 3).take (Try.prog.cellsOf 21)) = xs[2]? := hg 2 _ rfl
        rw [hC4] at g2
        replace g2 : DataW.trod enc Try.prog w base spare held n' 21 [c3] = xs[2]? := g2
        have g3 : DataW.trod enc Try.prog w base spare held n' 4 (([c0, c1, c2, c3, c4].drop 4).take (Try.prog.cellsOf 4)) = xs[3]? := hg 3 _ rfl
        rw [hC5] at g3
        replace g3 : DataW.trod enc Try.prog w base spare held n' 4 [c4] = xs[3]? := g3
        have hl4 : xs.length = 4 := hlen
        rw [List.getElem?_eq_getElem (by omega)] at g0 g1 g2 g3
        obtain ⟨ys, n2, _, _, _, hlen2, hg2⟩ := DataW.trod_struct Try.underlying29 g0
        have q0 : DataW.trod enc Try.prog w base spare held n2 3 (([c0, c1].drop 0).take (Try.prog.cellsOf 3)) = ys[0]? := hg2 0 _ rfl
        rw [hC3] at q0
        replace q0 : DataW.trod enc Try.prog w base spare held n2 3 [c0] = ys[0]? := q0
        have q1 : DataW.trod enc Try.prog w base spare held n2 3 (([c0, c1].drop 1).take (Try.prog.cellsOf 3)) = ys[1]? := hg2 1 _ rfl
        rw [hC3] at q1
        replace q1 : DataW.trod enc Try.prog w base spare held n2 3 [c1] = ys[1]? := q1
        have hl2 : ys.length = 2 := hlen2
        rw [List.getElem?_eq_getElem (by omega)] at q0 q1
        obtain ⟨x0, e0, _, _⟩ := DataW.trod_int Try.underlying3 q0
        obtain ⟨x1, e1, _, _⟩ := DataW.trod_int Try.underlying3 q1
        obtain ⟨x2, e2, _, _⟩ := DataW.trod_int Try.underlying3 g1
        obtain ⟨x3, e3, _, _⟩ := DataW.trod_int Try.underlying21 g2
        obtain ⟨x4, e4, _⟩ := DataW.trod_bool Try.underlying4 g3
        simp only [List.cons.injEq, and_true] at e0 e1 e2 e3 e4
        subst e0 e1 e2 e3 e4
        refine ⟨⟨⟨x0, x1⟩, x2, x3, x4⟩, fun _ j u hj => ?_⟩
        have hj3 : j < 5 := by have := (List.getElem?_eq_some_iff.1 hj).1; simpa using this
        have := hat j hj3
        rw [← Go.Deep.add_add]
        rw [this]
        exact hj
      · exact ⟨z46, fun h => absurd h hil⟩
    obtain ⟨f, hf'⟩ := Classical.axiomOfChoice hall
    refine ⟨(List.range len).map f, by simp, hl, ?_⟩
    rw [List.length_map, List.length_range]
    have hcm : cap ≤ 9223372036854775807 := by simpa [maxLen] using hm
    refine ⟨by simp, by omega, fun _ => ⟨a, rfl, fun j x hj => ?_⟩⟩
    obtain ⟨hjl, hx'⟩ := List.getElem?_eq_some_iff.1 hj
    rw [List.length_map, List.length_range] at hjl
    simp only [List.getElem_map, List.getElem_range] at hx'
    subst hx'
    exact ⟨_, rfl, k46_mk w (f j), fun i u hu => hf' j hjl i u hu⟩
end
end Go.Proofs.Ytkglfgikfeebhaa.X
