/-
  A site's own runes, by the program and by the reference, as one list: by this session. Conditions: as typed.
-/
import Derived.Test.YtkglfgikfeebhaaRefMay
import Derived.Test.YtkglfgikfeebhaaRefLv
import Derived.Test.YtkglfgikfeebhaaPx9
import Derived.Test.YtkglfgikfeebhaaPx10
namespace Go.Proofs.Ytkglfgikfeebhaa.X
open Go Go.RowKit Go.Lib Go.Proofs.YtkglfgikfeebhaaW.PrintWords Go.Proofs.Ytkglfgikfeebhaa.P
set_option linter.unusedVariables false
/-- A site's runes. -/
def ofSite (site : Int) (l : List S46) : List Int := (l.filter fun x => decide (x.f0.f0 = site)).map (·.f2)
theorem own_b (site : Int) (M : List S46) (hM : M.length ≤ 20000) : ∀ (f k i : Nat) (acc : List Int), M.length = i + f → acc.length ≤ i →
    blame_Own.l0 (k + f + 1) site acc M (M.length : Int) (i : Int) = (runes_Join.f (acc ++ ofSite site (M.drop i))).bind fun b => some b.1 := by
  intro f
  induction f with
  | zero =>
    intro k i acc hi ha
    rw [show k + 0 + 1 = k + 1 by omega, blame_Own.l0, if_neg (by omega), List.drop_of_length_le (by omega)]
    simp [ofSite]
  | succ f ih =>
    intro k i acc hi ha
    have hlt : i < M.length := by omega
    rw [show k + (f + 1) + 1 = (k + f + 1) + 1 by omega, blame_Own.l0, if_pos (by omega), if_pos (by omega), if_pos (by omega), rd46 M i hlt, w_s i (by omega), List.drop_eq_getElem_cons hlt]
    by_cases hs : M[i].f0.f0 = site
    · rw [if_pos hs, if_pos (by omega), ih k (i + 1) _ (by omega) (by rw [List.length_append, List.length_singleton]; omega), show ofSite site (M[i] :: M.drop (i + 1)) = M[i].f2 :: ofSite site (M.drop (i + 1)) by unfold ofSite; rw [List.filter_cons, if_pos (decide_eq_true hs), List.map_cons], List.append_assoc]
      rfl
    · rw [if_neg hs, ih k (i + 1) acc (by omega) (by omega), show ofSite site (M[i] :: M.drop (i + 1)) = ofSite site (M.drop (i + 1)) by unfold ofSite; rw [List.filter_cons, if_neg (by simpa using hs)]]
theorem own_r (site : Int) (l : List S46) (hl : l.length ≤ 20000) : ∀ (f k i : Nat) (acc : List Int), l.length = i + f → acc.length ≤ i →
    foolscapref30_Own.l0 (k + f + 1) l site acc (i : Int) = (foolscapref01_Join.f k (acc ++ ofSite site (liveL (l.drop i)))).bind fun b => some b.1 := by
  intro f
  induction f with
  | zero =>
    intro k i acc hi ha
    rw [show k + 0 + 1 = k + 1 by omega, foolscapref30_Own.l0, if_neg (by omega), List.drop_of_length_le (by omega)]
    simp [ofSite, liveL]
  | succ f ih =>
    intro k i acc hi ha
    have hlt : i < l.length := by omega
    rw [show k + (f + 1) + 1 = (k + f + 1) + 1 by omega, foolscapref30_Own.l0, if_pos (by omega), if_pos (by omega), rd46 l i hlt, w_s i (by omega), List.drop_eq_getElem_cons hlt]
    by_cases hd : l[i].f3 = true
    · rw [show liveL (l[i] :: l.drop (i + 1)) = liveL (l.drop (i + 1)) by unfold liveL; rw [List.filter_cons, if_neg (by rw [hd]; decide)]]
      by_cases hs : l[i].f0.f0 = site
      · rw [if_pos hs, if_pos hd, ih k (i + 1) acc (by omega) (by omega)]
      · rw [if_neg hs, ih k (i + 1) acc (by omega) (by omega)]
    · rw [show liveL (l[i] :: l.drop (i + 1)) = l[i] :: liveL (l.drop (i + 1)) by unfold liveL; rw [List.filter_cons, if_pos (by simpa using hd)]]
      by_cases hs : l[i].f0.f0 = site
      · rw [if_pos hs, if_neg hd, if_pos (by omega), ih k (i + 1) _ (by omega) (by rw [List.length_append, List.length_singleton]; omega), show ofSite site (l[i] :: liveL (l.drop (i + 1))) = l[i].f2 :: ofSite site (liveL (l.drop (i + 1))) by unfold ofSite; rw [List.filter_cons, if_pos (decide_eq_true hs), List.map_cons], List.append_assoc]
        rfl
      · rw [if_neg hs, ih k (i + 1) acc (by omega) (by omega), show ofSite site (l[i] :: liveL (l.drop (i + 1))) = ofSite site (liveL (l.drop (i + 1))) by unfold ofSite; rw [List.filter_cons, if_neg (by simpa using hs)]]
end Go.Proofs.Ytkglfgikfeebhaa.X
