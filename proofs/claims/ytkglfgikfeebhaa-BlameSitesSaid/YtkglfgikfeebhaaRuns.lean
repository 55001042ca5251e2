/-
  Cells gathered into runs, as plain lists: by this session. Conditions: as typed.
-/
import Derived.Test.YtkglfgikfeebhaaPx0
namespace Go.Proofs.Ytkglfgikfeebhaa.X
open Go Go.RowKit Go.Proofs.YtkglfgikfeebhaaW.PrintWords Go.Proofs.Ytkglfgikfeebhaa.P
set_option linter.unusedVariables false
/-- A cell put to the runs, g telling whether it goes on with the one ahead. -/
def addR (g : S46 → S46 → Bool) (xss : List (List S46)) (x : S46) : List (List S46) :=
  match xss.getLast? with
  | none => [[x]]
  | some r => match r.getLast? with
    | none => xss ++ [[x]]
    | some y => if g y x = true then xss.dropLast ++ [r ++ [x]] else xss ++ [[x]]
theorem addR_nil (g : S46 → S46 → Bool) (x : S46) : addR g [] x = [[x]] := rfl
theorem addR_on {g : S46 → S46 → Bool} {yss : List (List S46)} {r : List S46} {y x : S46} (h : g y x = true) : addR g (yss ++ [r ++ [y]]) x = yss ++ [r ++ [y] ++ [x]] := by
  unfold addR
  simp [h]
theorem addR_new {g : S46 → S46 → Bool} {yss : List (List S46)} {r : List S46} {y x : S46} (h : g y x = false) : addR g (yss ++ [r ++ [y]]) x = yss ++ [r ++ [y]] ++ [[x]] := by
  unfold addR
  simp [h]
def runsOf (g : S46 → S46 → Bool) (M : List S46) : List (List S46) := M.foldl (addR g) []
theorem runsOf_snoc (g : S46 → S46 → Bool) (M : List S46) (x : S46) : runsOf g (M ++ [x]) = addR g (runsOf g M) x := by
  unfold runsOf
  rw [List.foldl_append]
  rfl
/-- The last run ends in the last cell; no run is empty; laid end to end they are the cells. -/
theorem runsOf_ends (g : S46 → S46 → Bool) : ∀ (M : List S46) (y : S46), (∃ yss r, runsOf g (M ++ [y]) = yss ++ [r ++ [y]]) ∧ (∀ r ∈ runsOf g (M ++ [y]), r ≠ []) ∧ (runsOf g (M ++ [y])).flatten = M ++ [y] := by
  have all : ∀ (n : Nat) (M : List S46), M.length = n → ∀ y, (∃ yss r, runsOf g (M ++ [y]) = yss ++ [r ++ [y]]) ∧ (∀ r ∈ runsOf g (M ++ [y]), r ≠ []) ∧ (runsOf g (M ++ [y])).flatten = M ++ [y] := by
   intro n
   induction n with
   | zero =>
    intro M hM y
    rw [List.length_eq_zero_iff.1 hM]
    exact ⟨⟨[], [], rfl⟩, by simp [runsOf, addR], by simp [runsOf, addR]⟩
   | succ n ih0 =>
    intro M hM y
    have hne : M ≠ [] := fun e => by rw [e] at hM; cases hM
    obtain ⟨M', z, rfl⟩ : ∃ M' z, M = M' ++ [z] := ⟨M.dropLast, M.getLast hne, (List.dropLast_concat_getLast hne).symm⟩
    have ih := fun z => ih0 M' (by simpa using hM) z
    obtain ⟨⟨yss, r, h1⟩, h2, h3⟩ := ih z
    rw [runsOf_snoc, h1]
    rw [h1] at h2 h3
    cases hg : g z y with
    | true =>
      rw [addR_on hg]
      refine ⟨⟨yss, r ++ [z], rfl⟩, fun s hs => ?_, ?_⟩
      · rcases List.mem_append.1 hs with h | h
        · exact h2 s (List.mem_append_left _ h)
        · rw [List.mem_singleton.1 h]
          simp
      · rw [← h3]
        simp
    | false =>
      rw [addR_new hg]
      refine ⟨⟨yss ++ [r ++ [z]], [], rfl⟩, fun s hs => ?_, ?_⟩
      · rcases List.mem_append.1 hs with h | h
        · exact h2 s h
        · rw [List.mem_singleton.1 h]
          simp
      · rw [List.flatten_append, h3]
        simp
  exact fun M y => all M.length M rfl y
end Go.Proofs.Ytkglfgikfeebhaa.X
