/-
  The longest runes that two lists have in common, and the least cost of turning one into the other, in plain Lean, by this session. Conditions: as typed.
-/
import Derived.KernelRfl
namespace Go.Proofs.YtabhfloclcmjnaaDoor.Lcs
/-- How long the longest is: from the front. -/
def S : List Int → List Int → Nat
  | [], _ => 0
  | _ :: _, [] => 0
  | x :: a, y :: b => if x = y then S a b + 1 else max (S a (y :: b)) (S (x :: a) b)
termination_by a b => a.length + b.length
theorem S_nil (a : List Int) : S a [] = 0 := by cases a <;> simp [S]
theorem S_most : ∀ (a b c : List Int), c.Sublist a → c.Sublist b → c.length ≤ S a b
  | [], b, c, h, _ => by rw [List.sublist_nil.1 h]; simp
  | x :: a, [], c, _, h => by rw [List.sublist_nil.1 h]; simp
  | x :: a, y :: b, c, h1, h2 => by
    rw [S]
    by_cases e : x = y
    · subst e
      rw [if_pos rfl]
      cases c with
      | nil => simp
      | cons z c =>
        have k1 : c.Sublist a := by
          cases h1 with
          | cons _ h => exact (List.sublist_cons_self z c).trans h
          | cons_cons _ h => exact h
        have k2 : c.Sublist b := by
          cases h2 with
          | cons _ h => exact (List.sublist_cons_self z c).trans h
          | cons_cons _ h => exact h
        have := S_most a b c k1 k2
        simp only [List.length_cons]
        omega
    · rw [if_neg e]
      cases h1 with
      | cons _ h => have := S_most a (y :: b) c h h2; omega
      | cons_cons _ h =>
        cases h2 with
        | cons _ h' => have := S_most (x :: a) b _ (List.Sublist.cons_cons x h) h'; omega
        | cons_cons _ h' => exact absurd rfl e
termination_by a b => a.length + b.length
theorem S_some : ∀ (a b : List Int), ∃ c : List Int, c.Sublist a ∧ c.Sublist b ∧ c.length = S a b
  | [], b => ⟨[], List.Sublist.refl _, List.nil_sublist _, by simp [S]⟩
  | x :: a, [] => ⟨[], List.nil_sublist _, List.Sublist.refl _, by simp [S]⟩
  | x :: a, y :: b => by
    rw [S]
    by_cases e : x = y
    · subst e
      rw [if_pos rfl]
      obtain ⟨c, h1, h2, h3⟩ := S_some a b
      exact ⟨x :: c, h1.cons_cons x, h2.cons_cons x, by simp [h3]⟩
    · rw [if_neg e]
      by_cases h : S a (y :: b) ≤ S (x :: a) b
      · obtain ⟨c, h1, h2, h3⟩ := S_some (x :: a) b
        exact ⟨c, h1, h2.cons y, by omega⟩
      · obtain ⟨c, h1, h2, h3⟩ := S_some a (y :: b)
        exact ⟨c, h1.cons x, h2, by omega⟩
termination_by a b => a.length + b.length
theorem S_symm (a b : List Int) : S a b = S b a := by
  obtain ⟨c, h1, h2, h3⟩ := S_some a b
  obtain ⟨d, k1, k2, k3⟩ := S_some b a
  have := S_most b a c h2 h1
  have := S_most a b d k2 k1
  omega
theorem S_reverse (a b : List Int) : S a.reverse b.reverse = S a b := by
  obtain ⟨c, h1, h2, h3⟩ := S_some a b
  obtain ⟨d, k1, k2, k3⟩ := S_some a.reverse b.reverse
  have := S_most a.reverse b.reverse c.reverse h1.reverse h2.reverse
  have e1 : d.reverse.Sublist a := by have := k1.reverse; rwa [List.reverse_reverse] at this
  have e2 : d.reverse.Sublist b := by have := k2.reverse; rwa [List.reverse_reverse] at this
  have := S_most a b d.reverse e1 e2
  simp only [List.length_reverse] at *
  omega
theorem S_le_left (a b : List Int) : S a b ≤ a.length := by
  obtain ⟨c, h1, _, h3⟩ := S_some a b
  have := h1.length_le
  omega
theorem S_le_right (a b : List Int) : S a b ≤ b.length := by rw [S_symm]; exact S_le_left b a
/-- The cost, as the table has it: from the front, equal runes kept. -/
def C : List Int → List Int → Nat
  | [], b => b.length
  | x :: a, [] => (x :: a).length
  | x :: a, y :: b => if x = y then C a b else if C a (y :: b) ≤ C (x :: a) b then C a (y :: b) + 1 else C (x :: a) b + 1
termination_by a b => a.length + b.length
theorem C_S : ∀ a b : List Int, C a b + 2 * S a b = a.length + b.length
  | [], b => by simp [C, S]
  | x :: a, [] => by simp [C, S]
  | x :: a, y :: b => by
    rw [C, S]
    by_cases e : x = y
    · rw [if_pos e, if_pos e]
      have := C_S a b
      simp only [List.length_cons]
      omega
    · rw [if_neg e, if_neg e]
      have h1 := C_S a (y :: b)
      have h2 := C_S (x :: a) b
      simp only [List.length_cons] at *
      split <;> omega
termination_by a b => a.length + b.length
theorem C_symm (a b : List Int) : C a b = C b a := by
  have h1 := C_S a b
  have h2 := C_S b a
  have h3 := S_symm a b
  omega
theorem C_self (a : List Int) : C a a = 0 := by
  induction a with
  | nil => simp [C]
  | cons x a ih => rw [C, if_pos rfl]; exact ih
/-- What the document reckons: from the back, over beginnings. -/
theorem S_step (x y : Int) (a b : List Int) : S (a ++ [x]).reverse (b ++ [y]).reverse = if x = y then S a.reverse b.reverse + 1 else max (S a.reverse (b ++ [y]).reverse) (S (a ++ [x]).reverse b.reverse) := by
  rw [List.reverse_append, List.reverse_append]
  simp only [List.reverse_cons, List.reverse_nil, List.nil_append, List.singleton_append]
  rw [S]
end Go.Proofs.YtabhfloclcmjnaaDoor.Lcs
