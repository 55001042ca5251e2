/-
  Two texts as one (OpenRows, RefJ): by this session, or printed. Conditions: as typed.
-/
import Derived.Test.YtmkmpjkgpnahnaaDoorRefL
import Derived.Test.YtmkmpjkgpnahnaaDoorPx4
import Derived.Test.YtmkmpjkgpnahnaaDoorTxtA
import Derived.Test.YtmkmpjkgpnahnaaDoorPx9
namespace Go.Proofs.YtmkmpjkgpnahnaaDoor.X
open Go Go.Joins Go.ChangeShapes Go.WideShapes Go.RowKit Go.Deep Go.Proofs.YtmkmpjkgpnahnaaDoorW.PrintWords Go.Proofs.YtmkmpjkgpnahnaaDoor.P
set_option linter.unusedVariables false
section
variable {H : Type} {enc : TypeId × Value → H} {w : World} {base : Nat} {spare : Nat → Bool} {held : Bool}
theorem open_rows23 {A : Option Addr} {len cap : Nat} {d : DataW H} {p : List MemPlace} (h : DataW.Trod enc Tryd.prog w base spare held 26 (.slice A len cap) d p) :
    ∃ l : List S23, l.length = len ∧ len ≤ cap ∧ Kd.C k23 w A l.length l := by
  obtain ⟨fuel, hf⟩ := h
  rcases open_slice Tryd.underlying26 hf with ⟨hc, _⟩ | ⟨a, len', cap', m, n, D, Pl, hcs, hb, hl, hm, hmm, hx, hi⟩
  · simp only [Value.cells, List.cons.injEq, Value.slice.injEq, and_true] at hc
    obtain ⟨rfl, rfl, rfl⟩ := hc
    exact ⟨[], rfl, Nat.le_refl _, rfl, by simp, fun h => absurd h (by simp)⟩
  · simp only [Value.cells, List.cons.injEq, Value.slice.injEq, and_true] at hcs
    obtain ⟨rfl, rfl, rfl⟩ := hcs
    have hlm : len ≤ m := by rw [hmm]; split <;> omega
    have hall : ∀ i, ∃ x : S23, i < len → ∀ (j : Nat) (u : Value), [Value.int .i64 x.f0, .int .i64 x.f1, .int .i64 x.f2, .int .i64 x.f3, .string x.f4][j]? = some u → w.cell? (a.add (i * 5 + j)) = some u := by
      intro i
      by_cases hil : i < len
      · obtain ⟨cs', hc, ht'⟩ := hi i (by omega)
        have hC : Tryd.prog.cellsOf 23 = 5 := by kernel_rfl
        rw [hC] at hc
        obtain ⟨_, hcl, hat⟩ := World.cells?_some hc
        obtain ⟨xs, n', _, _, _, hlen, hg⟩ := DataW.trod_struct Tryd.underlying23 ht'
        match cs', hcl with
        | [c0, c1, c2, c3, c4], _ =>
          have hr : ReadsF enc Tryd.prog w base spare held n' _ [c0, c1, c2, c3, c4] xs := ⟨hlen, hg⟩
          obtain ⟨x0, rfl, _⟩ := field_int (by kernel_rfl) hr 0 _ rfl Tryd.underlying3 rfl
          obtain ⟨x1, rfl, _⟩ := field_int (by kernel_rfl) hr 1 _ rfl Tryd.underlying3 rfl
          obtain ⟨x2, rfl, _⟩ := field_int (by kernel_rfl) hr 2 _ rfl Tryd.underlying3 rfl
          obtain ⟨x3, rfl, _⟩ := field_int (by kernel_rfl) hr 3 _ rfl Tryd.underlying3 rfl
          obtain ⟨x4, rfl, _⟩ := field_string (by kernel_rfl) hr 4 _ rfl Tryd.underlying9 rfl
          refine ⟨⟨x0, x1, x2, x3, x4⟩, fun _ j u hj => ?_⟩
          have hj5 : j < 5 := by have := (List.getElem?_eq_some_iff.1 hj).1; simpa using this
          have := hat j hj5
          rw [← Go.Deep.add_add]
          rw [this]
          exact hj
      · exact ⟨z23, fun h => absurd h hil⟩
    obtain ⟨f, hf'⟩ := Classical.axiomOfChoice hall
    refine ⟨(List.range len).map f, by simp, hl, ?_⟩
    rw [List.length_map, List.length_range]
    have hcm : cap ≤ 9223372036854775807 := by simpa [maxLen] using hm
    refine ⟨by simp, by omega, fun _ => ⟨a, rfl, fun j x hj => ?_⟩⟩
    obtain ⟨hjl, hx'⟩ := List.getElem?_eq_some_iff.1 hj
    rw [List.length_map, List.length_range] at hjl
    simp only [List.getElem_map, List.getElem_range] at hx'
    subst hx'
    exact ⟨_, rfl, k23_mk w (f j), fun i u hu => hf' j hjl i u hu⟩
end
end Go.Proofs.YtmkmpjkgpnahnaaDoor.X
namespace Go.Proofs.YtmkmpjkgpnahnaaDoor.X
open Go Go.RowKit Go.Shelf Go.Proofs.YtmkmpjkgpnahnaaDoorW.PrintWords Go.Proofs.YtmkmpjkgpnahnaaDoor.P
set_option linter.unusedVariables false

theorem rd_at (l : List Int) (i : Nat) (h : i < l.length) : rd l (i : Int) = l[i] := by
  simp [rd, List.getD_eq_getElem?_getD, List.getElem?_eq_getElem h]
theorem join_l0 (l : List Int) (hl : l.length ≤ 17592186044416) : ∀ (f k i : Nat), l.length = i + f → allRunes (l.take i) = true →
    foolscapref01_Join.l0 (k + f + 1) l ((l.take i).flatMap Lib.encodeRuneZ) (i : Int) = some (if allRunes l = true then (strOf l, true) else (⟨#[]⟩, false)) := by
  intro f
  induction f with
  | zero =>
    intro k i hi ha
    obtain ⟨m, hm⟩ : ∃ m, k + 0 = m := ⟨_, rfl⟩
    rw [hm]
    simp only [foolscapref01_Join.l0]
    rw [if_neg (by omega)]
    rw [show l.take i = l by rw [List.take_of_length_le (by omega)]] at ha ⊢
    rw [if_pos ha]
    rfl
  | succ f ih =>
    intro k i hi ha
    obtain ⟨m, hm⟩ : ∃ m, k + f + 1 = m := ⟨_, rfl⟩
    rw [show k + (f + 1) + 1 = m + 1 by omega]
    simp only [foolscapref01_Join.l0]
    have hlt : i < l.length := by omega
    rw [if_pos (by omega), if_pos (by omega), rd_at l i hlt, is_f, Option.bind_some]
    have htk : l.take (i + 1) = l.take i ++ [l[i]] := by rw [List.take_succ_eq_append_getElem hlt]
    by_cases hv : Lib.validRune l[i] = true
    · have hv' : (0 ≤ l[i] ∧ l[i] < 55296) ∨ (57343 < l[i] ∧ l[i] ≤ 1114111) := of_decide_eq_true hv
      rw [if_pos hv, bytes_f _ (by omega) (by omega) hv, Option.bind_some]
      have h1 := flat_len (l.take i)
      have h2 : (l.take i).length ≤ i := List.length_take_le _ _
      have h3 := (Lib.encodeRuneZ_length l[i]).2
      rw [if_pos (by omega), show wrap64 ((i : Int) + 1) = ((i + 1 : Nat) : Int) by unfold wrap64; omega]
      have h4 : (l.take i).flatMap Lib.encodeRuneZ ++ Lib.encodeRuneZ l[i] = (l.take (i + 1)).flatMap Lib.encodeRuneZ := by rw [htk, List.flatMap_append, List.flatMap_singleton]
      rw [h4, ← hm]
      exact ih k (i + 1) (by omega) (by rw [htk, allRunes_append, ha]; simp [allRunes, hv])
    · rw [if_neg hv]
      have hno : allRunes l = false := by
        rw [← Bool.not_eq_true]
        exact fun h => hv (List.all_eq_true.1 h _ (List.getElem_mem hlt))
      rw [hno]
      rfl
theorem join_ev (l : List Int) (hl : l.length ≤ 17592186044416) : Ev (fun k => foolscapref01_Join.f k l) (if allRunes l = true then (strOf l, true) else (⟨#[]⟩, false)) :=
  ⟨l.length + 1, fun k hk => by
    have h := join_l0 l hl l.length (k - l.length - 1) 0 (by omega) rfl
    rw [show k - l.length - 1 + l.length + 1 = k by omega] at h
    exact h⟩
end Go.Proofs.YtmkmpjkgpnahnaaDoor.X
