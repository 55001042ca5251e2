/-
  Layer 29's reference texts, as functions on lists: by this session. Conditions: as typed.
-/
import Derived.Test.YtmkmpjkgpnahnaaDoorRefL
import Derived.Test.YtmkmpjkgpnahnaaDoorRow29
import Derived.Test.YtmkmpjkgpnahnaaDoorIncl
import Derived.Test.YtmkmpjkgpnahnaaDoorPx8
import Derived.Test.YtmkmpjkgpnahnaaDoorPx4
namespace Go.Proofs.YtmkmpjkgpnahnaaDoor.X
open Go Go.RowKit Go.Shelf Go.Proofs.YtmkmpjkgpnahnaaDoorW.PrintWords Go.Proofs.YtmkmpjkgpnahnaaDoor.P
set_option linter.unusedVariables false
theorem may29_ev (s kd p l : Int) (t : ByteArray) (n : Int) (hn : 0 ≤ n) : Ev (fun k => foolscapref29_May.f k s kd p l t n) (mayB s kd p l t n) := by
  obtain ⟨K, hK⟩ : ∃ K, ∀ k, K ≤ k → t.size ≤ 800 → foolscapref01_Len.f k t = some (lenU t) := by
    by_cases h : t.size ≤ 800
    · obtain ⟨K, hK⟩ := len_ev t (by omega)
      exact ⟨K, fun k hk _ => hK k hk⟩
    · exact ⟨0, fun _ _ h' => absurd h' h⟩
  refine ⟨K + 2, fun k hk => ?_⟩
  obtain ⟨m, rfl⟩ : ∃ m, k = m + 1 := ⟨k - 1, by omega⟩
  have hL := hK m (by omega)
  simp only [foolscapref29_May.f, foolscapref29_May.j0]
  rw [if_neg (by omega)]
  by_cases a2 : n ≤ 20000
  · rw [if_neg (by omega)]
    by_cases a3 : 1 ≤ s
    · rw [if_neg (by omega)]
      by_cases a4 : s ≤ 16
      · rw [decide_eq_false (by omega : ¬ s > 16), if_neg (by simp)]
        by_cases b1 : kd = 1
        · subst b1
          rw [if_pos rfl]
          by_cases b5 : t.size ≤ 800
          · rw [if_neg (by omega), hL b5, Option.bind_some]
            by_cases b2 : (0 : Int) ≤ p <;> by_cases b3 : p ≤ n <;> by_cases b4 : l = 0 <;> by_cases b6 : (1 : Int) ≤ lenU t <;>
              simp [b2, b3, b4, b6, b5, a2, a3, a4, hn, mayB]
          · rw [if_pos (by omega)]
            simp [mayB, b5]
        · rw [if_neg b1]
          by_cases b1' : kd = 2
          · subst b1'
            rw [if_pos rfl]
            by_cases b2 : (0 : Int) ≤ p
            · rw [if_pos (by omega)]
              by_cases b3 : p < n
              · rw [if_pos b3, show wrap64 (n - p) = n - p by unfold wrap64; omega]
                have b3' : p ≤ n - 1 := by omega
                by_cases b4 : (1 : Int) ≤ l <;> by_cases b5 : l ≤ n - p <;> simp [b4, b5, b2, b3', a2, a3, a4, hn, mayB]
                generalize t.toList = q
                cases q <;> simp
              · rw [if_neg b3]
                have b3' : ¬ p ≤ n - 1 := by omega
                simp [mayB, b3']
            · rw [if_neg (by omega)]
              simp [mayB, b2]
          · rw [if_neg b1']
            simp [mayB, b1, b1']
      · rw [decide_eq_true (by omega : s > 16), if_pos rfl]
        simp [mayB, a4]
    · rw [if_pos (by omega), if_pos trivial]
      simp [mayB, a3]
  · rw [if_pos (by omega), if_pos trivial]
    simp [mayB, a2]
def textL (t : ByteArray) : List Int := match textOf t with | some l => l | none => []
theorem loop_app (bs : ByteArray) : ∀ (d i : Nat) (r : List UInt8), bs.size - i = d → (ByteArray.toList.loop bs i r).length = r.length + d := by
  intro d
  induction d with
  | zero =>
    intro i r h
    rw [ByteArray.toList.loop, if_neg (by omega)]
    simp
  | succ d ih =>
    intro i r h
    rw [ByteArray.toList.loop, if_pos (by omega), ih (i + 1) _ (by omega)]
    simp
    omega
theorem size_of_nil {t : ByteArray} (h : t.toList = []) : t.size = 0 := by
  have := loop_app t t.size 0 [] (by omega)
  have e : (ByteArray.toList.loop t 0 []).length = t.toList.length := rfl
  rw [e, h] at this
  simpa using this.symm
theorem mayB_of {s kd p l : Int} {t : ByteArray} {n : Int} (h : mayB s kd p l t n = true) :
    0 ≤ n ∧ n ≤ 20000 ∧ 1 ≤ s ∧ s ≤ 16 ∧ 0 ≤ p ∧ p ≤ n ∧ 0 ≤ l ∧ p + l ≤ n ∧ t.size ≤ 800 ∧ ((kd = 1 ∧ l = 0 ∧ 1 ≤ lenU t ∧ lenU t ≤ 200) ∨ (kd = 2 ∧ p < n ∧ 1 ≤ l ∧ t.toList = [])) := by
  unfold mayB at h
  rw [decide_eq_true_eq] at h
  obtain ⟨a1, a2, a3, a4, h⟩ := h
  rcases h with ⟨b1, b2, b3, b4, b5, b6, b7⟩ | ⟨b1, b2, b3, b4, b5, b6⟩
  · exact ⟨a1, a2, a3, a4, b2, b3, by omega, by omega, b5, .inl ⟨b1, b4, b6, b7⟩⟩
  · have hz : t.size = 0 := size_of_nil b6
    exact ⟨a1, a2, a3, a4, b2, by omega, by omega, by omega, by omega, .inr ⟨b1, by omega, b4, b6⟩⟩
theorem textL_len (t : ByteArray) : (textL t).length ≤ t.size := by
  unfold textL
  cases h : textOf t with
  | none => simp
  | some l => exact text_len h
/-- A deed, as the document has it. -/
def toR (d : S33) : S23 := ⟨d.f0, d.f1, d.f2, d.f3, d.f4⟩
end Go.Proofs.YtmkmpjkgpnahnaaDoor.X
