/-
  The reference's Live told on lists: by this session. Conditions: as typed.
-/
import Derived.Test.YtkglfgikfeebhaaDf
import Derived.Test.YtkglfgikfeebhaaPx4
namespace Go.Proofs.Ytkglfgikfeebhaa.X
open Go Go.RowKit Go.Lib Go.Proofs.YtkglfgikfeebhaaW.PrintWords Go.Proofs.Ytkglfgikfeebhaa.P
set_option linter.unusedVariables false
theorem ref_live_l0 (l : List S46) (hl : l.length ≤ 100000) : ∀ (f k i : Nat) (acc : List S46), l.length = i + f → acc.length ≤ i → foolscapref30_Live.l0 (k + f + 1) l acc (i : Int) = some (acc ++ liveL (l.drop i)) := by
  intro f
  induction f with
  | zero =>
    intro k i acc hi ha
    obtain ⟨m, hm⟩ : ∃ m, k + 0 = m := ⟨_, rfl⟩
    rw [hm, foolscapref30_Live.l0, if_neg (by omega), List.drop_of_length_le (by omega)]
    simp [liveL]
  | succ f ih =>
    intro k i acc hi ha
    have hlt : i < l.length := by omega
    rw [show k + (f + 1) + 1 = (k + f + 1) + 1 by omega, foolscapref30_Live.l0, if_pos (by omega), if_pos (by omega), rd46 l i hlt, w_s i (by omega), List.drop_eq_getElem_cons hlt]
    by_cases hd : l[i].f3 = true
    · rw [if_pos hd, ih k (i + 1) acc (by omega) (by omega), show liveL (l[i] :: l.drop (i + 1)) = liveL (l.drop (i + 1)) by unfold liveL; rw [List.filter_cons, if_neg (by rw [hd]; decide)]]
    · rw [if_neg hd, if_pos (by omega)]
      have e : (⟨⟨l[i].f0.f0, l[i].f0.f1⟩, l[i].f1, l[i].f2, l[i].f3⟩ : S46) = l[i] := rfl
      rw [e, ih k (i + 1) _ (by omega) (by rw [List.length_append, List.length_singleton]; omega), show liveL (l[i] :: l.drop (i + 1)) = l[i] :: liveL (l.drop (i + 1)) by unfold liveL; rw [List.filter_cons, if_pos (by simpa using hd)], List.append_assoc]
      rfl
theorem ref_live_f (l : List S46) (hl : l.length ≤ 100000) (k : Nat) : foolscapref30_Live.f (k + l.length + 1) l = some (liveL l) := by
  have := ref_live_l0 l hl l.length k 0 [] (by omega) (by simp)
  rw [List.drop_zero] at this
  exact this
end Go.Proofs.Ytkglfgikfeebhaa.X
