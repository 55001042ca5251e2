/-
  More than the statements of layer 29 look at, as a function: by this session. Conditions: as typed.
-/
import Derived.Test.YtmkmpjkgpnahnaaDoorPx4
namespace Go.Proofs.YtmkmpjkgpnahnaaDoor.X
open Go Go.RowKit Go.Shelf Go.Proofs.YtmkmpjkgpnahnaaDoorW.PrintWords Go.Proofs.YtmkmpjkgpnahnaaDoor.P
set_option linter.unusedVariables false
/-- More than statements look at? -/
def greatB (t : ByteArray) (l : List S23) : Bool := decide (600 < t.size) || (decide (30 < l.length) || l.any fun d => decide (1000 < d.f4.size))
theorem rd23 (l : List S23) (i : Nat) (h : i < l.length) : rd_T23 l (i : Int) = l[i] := by
  simp [rd_T23, List.getD_eq_getElem?_getD, List.getElem?_eq_getElem h]
theorem rd33 (l : List S33) (i : Nat) (h : i < l.length) : rd_T33 l (i : Int) = l[i] := by
  simp [rd_T33, List.getD_eq_getElem?_getD, List.getElem?_eq_getElem h]
theorem great_l0 (l : List S23) (hl : l.length ≤ 30) : ∀ (f k i : Nat), l.length = i + f → foolscaplaw29_great.l0 (k + f + 1) l (i : Int) = some ((l.drop i).any fun d => decide (1000 < d.f4.size)) := by
  intro f
  induction f with
  | zero =>
    intro k i hi
    simp only [foolscaplaw29_great.l0]
    rw [if_neg (by omega), List.drop_eq_nil_of_le (by omega)]
    rfl
  | succ f ih =>
    intro k i hi
    have hlt : i < l.length := by omega
    rw [show k + (f + 1) + 1 = (k + f + 1) + 1 by omega]
    rw [foolscaplaw29_great.l0, if_pos (by omega), if_pos (by omega), rd23 l i hlt, List.drop_eq_getElem_cons hlt, List.any_cons]
    by_cases hg : 1000 < l[i].f4.size
    · rw [if_pos (by omega), decide_eq_true hg]
      rfl
    · rw [if_neg (by omega), decide_eq_false hg, show wrap64 ((i : Int) + 1) = ((i + 1 : Nat) : Int) by unfold wrap64; omega, ih k (i + 1) (by omega)]
      rfl
theorem great_ev (t : ByteArray) (l : List S23) : Ev (fun k => foolscaplaw29_great.f k t l) (greatB t l) := by
  refine ⟨40, fun k hk => ?_⟩
  obtain ⟨m, rfl⟩ : ∃ m, k = m + 1 := ⟨k - 1, by omega⟩
  simp only [foolscaplaw29_great.f, foolscaplaw29_great.j0, greatB]
  by_cases h1 : 600 < t.size
  · rw [if_pos (by omega), if_pos trivial, decide_eq_true h1]
    rfl
  · rw [if_neg (by omega), decide_eq_false h1]
    by_cases h2 : 30 < l.length
    · rw [decide_eq_true h2, decide_eq_true (by omega : (l.length : Int) > 30), if_pos rfl]
      rfl
    · rw [decide_eq_false h2, decide_eq_false (by omega : ¬ (l.length : Int) > 30), if_neg (by simp)]
      have := great_l0 l (by omega) l.length (m - l.length - 1) 0 (by omega)
      rw [show m - l.length - 1 + l.length + 1 = m by omega] at this
      simpa using this
end Go.Proofs.YtmkmpjkgpnahnaaDoor.X
